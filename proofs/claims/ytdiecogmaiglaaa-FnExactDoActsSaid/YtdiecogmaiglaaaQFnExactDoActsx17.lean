import Derived.Test.YtdiecogmaiglaaaQFnExactDoActsx0
import Derived.Test.YtdiecogmaiglaaaQFnExactDoActsx1
import Derived.Test.YtdiecogmaiglaaaQFnExactDoActsx2
import Derived.Test.YtdiecogmaiglaaaQFnExactDoActsx3
import Derived.Test.YtdiecogmaiglaaaQFnExactDoActsx4
import Derived.Test.YtdiecogmaiglaaaQFnExactDoActsx10
import Derived.Test.YtdiecogmaiglaaaQFnExactDoActsx11
import Derived.Test.YtdiecogmaiglaaaQFnExactDoActsx16
namespace Go.Proofs.Ytdiecogmaiglaaa.PFnExactDoActs
open Go.RowKit Go.Proofs.YtdiecogmaiglaaaW.PrintWords Go.Proofs.YtdiecogmaiglaaaW.PrintLast Go.Proofs.YtdiecogmaiglaaaW.PrintMore
attribute [local go_sem] max2_int min2_int max_two min_two max_three min_three max_four min_four   -- for this text's walks alone
set_option linter.unusedVariables false
set_option linter.unusedSimpArgs false

/-! ### laws_FnExactDoActs: function 9 -/
mutual
def laws_FnExactDoActs.j0 : Nat → List (S52) → Int → List (S55) → Int → Bool → List (S94) → List (S45) → List (S45) → List (S45) → Option (Bool)
 | 0, _, _, _, _, _, _, _, _, _ => none
 | k + 1, x1, x7, x9, x11, x53, x319000, x332000, x336000, x344000 => if x53 = true then (some false) else ((laws_toDisk.f k x319000).bind fun t345 => ((laws_eqDisk.f k x336000 t345).bind fun t348 => (if t348 = true then ((laws_toActS.f k x1).bind fun t349 => ((laws_eqActS.f k x9 t349).bind fun t352 => (if t352 = true then ((laws_markDisk.f k x336000 1).bind fun bt353 => ((laws_markActS.f k x9 bt353.1).bind fun bt355 => (if bt355.1 < 0 then (laws_FnExactDoActs.j1 k x1 x7 true x319000 x332000 x344000) else ((laws_eqDisk.f k x344000 x332000).bind fun t357 => (if t357 = true then (laws_FnExactDoActs.j1 k x1 x7 (x11 != x7) x319000 x332000 x344000) else (laws_FnExactDoActs.j1 k x1 x7 true x319000 x332000 x344000)))))) else (some false)))) else (some false))))
def laws_FnExactDoActs.j1 : Nat → List (S52) → Int → Bool → List (S94) → List (S45) → List (S45) → Option (Bool)
 | 0, _, _, _, _, _, _ => none
 | k + 1, x1, x7, x82, x319000, x332000, x344000 => if x82 = true then (some false) else ((laws_markDisk.f k x344000 1).bind fun bt358 => ((laws_heldDisk.f k bt358.2 1).bind fun t360 => (if t360 < 0 then (some false) else (if t360 = bt358.1 then ((laws_toDisk.f k x319000).bind fun t361 => ((laws_toActS.f k x1).bind fun t364 => ((impl_DoActs.f k t361 t364).bind fun bt367 => ((laws_eqDisk.f k bt367.1 x332000).bind fun t372 => (if t372 = true then (laws_FnExactDoActs.j2 k bt358.1 (bt367.2 != x7) bt358.2) else (laws_FnExactDoActs.j2 k bt358.1 true bt358.2)))))) else (some false)))))
def laws_FnExactDoActs.j2 : Nat → Int → Bool → List (S45) → Option (Bool)
 | 0, _, _, _ => none
 | k + 1, x13, x110, x344000 => if x110 = true then (some false) else ((laws_heldDisk.f k x344000 1).bind fun t373 => (if t373 < 0 then (some false) else (if t373 = x13 then (some true) else (some false))))
end
def laws_FnExactDoActs.f (k : Nat) (l0_0 : List (S94)) (l1 : List (S52)) : Option (Bool) := (laws_szDisk.f k l0_0 1048576).bind fun t319 => (if t319 < 0 then (some true) else ((laws_szActS.f k l1 t319).bind fun t320 => (if t320 < 0 then (some true) else ((laws_toDisk.f k l0_0).bind fun t321 => ((laws_toActS.f k l1).bind fun t324 => ((spec_DoActs.f k t321 t324).bind fun bt327 => ((laws_toDisk.f k l0_0).bind fun t332 => ((laws_toActS.f k l1).bind fun t336 => ((impl_DoActs.f k t332 t336).bind fun bt339 => ((laws_eqDisk.f k bt339.1 bt327.1).bind fun t344 => (if t344 = true then (laws_FnExactDoActs.j0 k l1 bt327.2 t336 bt339.2 (bt339.2 != bt327.2) l0_0 bt327.1 t332 bt339.1) else (laws_FnExactDoActs.j0 k l1 bt327.2 t336 bt339.2 true l0_0 bt327.1 t332 bt339.1))))))))))))
theorem laws_FnExactDoActs.mono_l : ∀ k, (∀ y0 y1 y2 y3 y4 y5 y6 y7 y8, LeO (laws_FnExactDoActs.j0 k y0 y1 y2 y3 y4 y5 y6 y7 y8) (laws_FnExactDoActs.j0 (k + 1) y0 y1 y2 y3 y4 y5 y6 y7 y8)) ∧ (∀ y0 y1 y2 y3 y4 y5, LeO (laws_FnExactDoActs.j1 k y0 y1 y2 y3 y4 y5) (laws_FnExactDoActs.j1 (k + 1) y0 y1 y2 y3 y4 y5)) ∧ (∀ y0 y1 y2, LeO (laws_FnExactDoActs.j2 k y0 y1 y2) (laws_FnExactDoActs.j2 (k + 1) y0 y1 y2))
 | 0 => ⟨fun _ _ _ _ _ _ _ _ _ r h => by simp [laws_FnExactDoActs.j0] at h, fun _ _ _ _ _ _ r h => by simp [laws_FnExactDoActs.j1] at h, fun _ _ _ r h => by simp [laws_FnExactDoActs.j2] at h⟩
 | k + 1 => by
  obtain ⟨ih0, ih1, ih2⟩ := laws_FnExactDoActs.mono_l k
  refine ⟨?_, ?_, ?_⟩
  ·intro y0 y1 y2 y3 y4 y5 y6 y7 y8
   unfold laws_FnExactDoActs.j0
   repeat' first
   | (with_reducible exact ih0 _ _ _ _ _ _ _ _ _)
   | (with_reducible exact ih1 _ _ _ _ _ _)
   | (with_reducible exact ih2 _ _ _)
   | (with_reducible exact impl_DoActs.mono _ _ _)
   | (with_reducible exact laws_eqActS.mono _ _ _)
   | (with_reducible exact laws_eqDisk.mono _ _ _)
   | (with_reducible exact laws_heldDisk.mono _ _ _)
   | (with_reducible exact laws_markActS.mono _ _ _)
   | (with_reducible exact laws_markDisk.mono _ _ _)
   | (with_reducible exact laws_szActS.mono _ _ _)
   | (with_reducible exact laws_szDisk.mono _ _ _)
   | (with_reducible exact laws_toActS.mono _ _)
   | (with_reducible exact laws_toDisk.mono _ _)
   | (with_reducible exact spec_DoActs.mono _ _ _)
   | (with_reducible exact LeO.refl _)
   | (with_reducible exact LeO.none _)
   | (with_reducible refine LeO.ite ?_ ?_)
   | (with_reducible refine LeO.bind ?_ (fun _ => ?_))
   | exact ih0 _ _ _ _ _ _ _ _ _
   | exact ih1 _ _ _ _ _ _
   | exact ih2 _ _ _
   | exact impl_DoActs.mono _ _ _
   | exact laws_eqActS.mono _ _ _
   | exact laws_eqDisk.mono _ _ _
   | exact laws_heldDisk.mono _ _ _
   | exact laws_markActS.mono _ _ _
   | exact laws_markDisk.mono _ _ _
   | exact laws_szActS.mono _ _ _
   | exact laws_szDisk.mono _ _ _
   | exact laws_toActS.mono _ _
   | exact laws_toDisk.mono _ _
   | exact spec_DoActs.mono _ _ _
   | exact LeO.none _
   | refine LeO.ite ?_ ?_
   | refine LeO.bind ?_ (fun _ => ?_)
  ·intro y0 y1 y2 y3 y4 y5
   unfold laws_FnExactDoActs.j1
   repeat' first
   | (with_reducible exact ih0 _ _ _ _ _ _ _ _ _)
   | (with_reducible exact ih1 _ _ _ _ _ _)
   | (with_reducible exact ih2 _ _ _)
   | (with_reducible exact impl_DoActs.mono _ _ _)
   | (with_reducible exact laws_eqActS.mono _ _ _)
   | (with_reducible exact laws_eqDisk.mono _ _ _)
   | (with_reducible exact laws_heldDisk.mono _ _ _)
   | (with_reducible exact laws_markActS.mono _ _ _)
   | (with_reducible exact laws_markDisk.mono _ _ _)
   | (with_reducible exact laws_szActS.mono _ _ _)
   | (with_reducible exact laws_szDisk.mono _ _ _)
   | (with_reducible exact laws_toActS.mono _ _)
   | (with_reducible exact laws_toDisk.mono _ _)
   | (with_reducible exact spec_DoActs.mono _ _ _)
   | (with_reducible exact LeO.refl _)
   | (with_reducible exact LeO.none _)
   | (with_reducible refine LeO.ite ?_ ?_)
   | (with_reducible refine LeO.bind ?_ (fun _ => ?_))
   | exact ih0 _ _ _ _ _ _ _ _ _
   | exact ih1 _ _ _ _ _ _
   | exact ih2 _ _ _
   | exact impl_DoActs.mono _ _ _
   | exact laws_eqActS.mono _ _ _
   | exact laws_eqDisk.mono _ _ _
   | exact laws_heldDisk.mono _ _ _
   | exact laws_markActS.mono _ _ _
   | exact laws_markDisk.mono _ _ _
   | exact laws_szActS.mono _ _ _
   | exact laws_szDisk.mono _ _ _
   | exact laws_toActS.mono _ _
   | exact laws_toDisk.mono _ _
   | exact spec_DoActs.mono _ _ _
   | exact LeO.none _
   | refine LeO.ite ?_ ?_
   | refine LeO.bind ?_ (fun _ => ?_)
  intro y0 y1 y2
  unfold laws_FnExactDoActs.j2
  repeat' first
  | (with_reducible exact ih0 _ _ _ _ _ _ _ _ _)
  | (with_reducible exact ih1 _ _ _ _ _ _)
  | (with_reducible exact ih2 _ _ _)
  | (with_reducible exact impl_DoActs.mono _ _ _)
  | (with_reducible exact laws_eqActS.mono _ _ _)
  | (with_reducible exact laws_eqDisk.mono _ _ _)
  | (with_reducible exact laws_heldDisk.mono _ _ _)
  | (with_reducible exact laws_markActS.mono _ _ _)
  | (with_reducible exact laws_markDisk.mono _ _ _)
  | (with_reducible exact laws_szActS.mono _ _ _)
  | (with_reducible exact laws_szDisk.mono _ _ _)
  | (with_reducible exact laws_toActS.mono _ _)
  | (with_reducible exact laws_toDisk.mono _ _)
  | (with_reducible exact spec_DoActs.mono _ _ _)
  | (with_reducible exact LeO.refl _)
  | (with_reducible exact LeO.none _)
  | (with_reducible refine LeO.ite ?_ ?_)
  | (with_reducible refine LeO.bind ?_ (fun _ => ?_))
  | exact ih0 _ _ _ _ _ _ _ _ _
  | exact ih1 _ _ _ _ _ _
  | exact ih2 _ _ _
  | exact impl_DoActs.mono _ _ _
  | exact laws_eqActS.mono _ _ _
  | exact laws_eqDisk.mono _ _ _
  | exact laws_heldDisk.mono _ _ _
  | exact laws_markActS.mono _ _ _
  | exact laws_markDisk.mono _ _ _
  | exact laws_szActS.mono _ _ _
  | exact laws_szDisk.mono _ _ _
  | exact laws_toActS.mono _ _
  | exact laws_toDisk.mono _ _
  | exact spec_DoActs.mono _ _ _
  | exact LeO.none _
  | refine LeO.ite ?_ ?_
  | refine LeO.bind ?_ (fun _ => ?_)
theorem laws_FnExactDoActs.mono : ∀ a0 a1 k, LeO (laws_FnExactDoActs.f k a0 a1) (laws_FnExactDoActs.f (k + 1) a0 a1) := by
 intro a0 a1 k
 obtain ⟨ih0, ih1, ih2⟩ := laws_FnExactDoActs.mono_l k
 unfold laws_FnExactDoActs.f
 repeat' first
   | (with_reducible exact ih0 _ _ _ _ _ _ _ _ _)
   | (with_reducible exact ih1 _ _ _ _ _ _)
   | (with_reducible exact ih2 _ _ _)
   | (with_reducible exact impl_DoActs.mono _ _ _)
   | (with_reducible exact laws_eqActS.mono _ _ _)
   | (with_reducible exact laws_eqDisk.mono _ _ _)
   | (with_reducible exact laws_heldDisk.mono _ _ _)
   | (with_reducible exact laws_markActS.mono _ _ _)
   | (with_reducible exact laws_markDisk.mono _ _ _)
   | (with_reducible exact laws_szActS.mono _ _ _)
   | (with_reducible exact laws_szDisk.mono _ _ _)
   | (with_reducible exact laws_toActS.mono _ _)
   | (with_reducible exact laws_toDisk.mono _ _)
   | (with_reducible exact spec_DoActs.mono _ _ _)
   | (with_reducible exact LeO.refl _)
   | (with_reducible exact LeO.none _)
   | (with_reducible refine LeO.ite ?_ ?_)
   | (with_reducible refine LeO.bind ?_ (fun _ => ?_))
   | exact ih0 _ _ _ _ _ _ _ _ _
   | exact ih1 _ _ _ _ _ _
   | exact ih2 _ _ _
   | exact impl_DoActs.mono _ _ _
   | exact laws_eqActS.mono _ _ _
   | exact laws_eqDisk.mono _ _ _
   | exact laws_heldDisk.mono _ _ _
   | exact laws_markActS.mono _ _ _
   | exact laws_markDisk.mono _ _ _
   | exact laws_szActS.mono _ _ _
   | exact laws_szDisk.mono _ _ _
   | exact laws_toActS.mono _ _
   | exact laws_toDisk.mono _ _
   | exact spec_DoActs.mono _ _ _
   | exact LeO.none _
   | refine LeO.ite ?_ ?_
   | refine LeO.bind ?_ (fun _ => ?_)
theorem laws_FnExactDoActs.j0_t {k : Nat} {y0} {y1} {y2} {y3} {y5} {y6} {y7} {y8} : ¬ laws_FnExactDoActs.j0 k y0 y1 y2 y3 true y5 y6 y7 y8 = some true := by cases k <;> simp [laws_FnExactDoActs.j0]
theorem laws_FnExactDoActs.j1_t {k : Nat} {y0} {y1} {y3} {y4} {y5} : ¬ laws_FnExactDoActs.j1 k y0 y1 true y3 y4 y5 = some true := by cases k <;> simp [laws_FnExactDoActs.j1]
theorem laws_FnExactDoActs.j2_t {k : Nat} {y0} {y2} : ¬ laws_FnExactDoActs.j2 k y0 true y2 = some true := by cases k <;> simp [laws_FnExactDoActs.j2]
set_option maxHeartbeats 8000000 in
set_option maxRecDepth 100000 in
theorem laws_FnExactDoActs.calls (k : Nat) (A0_0 : Option Addr) (c0_0 : Nat) (l0_0 : List (S94)) (A1 : Option Addr) (c1 : Nat) (l1 : List (S52)) (r : Bool) (w : World) (hr0_0 : Kd.C k94 w A0_0 l0_0.length l0_0) (hc0_0 : l0_0.length ≤ c0_0) (hr1 : Kd.C k52 w A1 l1.length l1) (hc1 : l1.length ≤ c1) (hr_ : r = true) (h : laws_FnExactDoActs.f k l0_0 l1 = some r) :
  Calls Try.prog 9 #[.agg #[.slice A0_0 l0_0.length c0_0], .slice A1 l1.length c1] w fun e w' => e = .returned (.bool r) ∧ Below w.heap.size w w' := by
 have hu24 := Try.underlying24
 have hu29 := Try.underlying29
 have HR0_0 := Aside0.mk hr0_0
 have HC0_0 := Aside0.mk hc0_0
 clear hr0_0 hc0_0
 have HR1 := Aside0.mk hr1
 have HC1 := Aside0.mk hc1
 clear hr1 hc1
 have HB := Aside0.mk (Below.refl w.heap.size w)
 have HR_ := Aside0.mk hr_
 clear hr_
 have H : ((laws_szDisk.f k l0_0 1048576).bind fun t319 => (if t319 < 0 then (some true) else ((laws_szActS.f k l1 t319).bind fun t320 => (if t320 < 0 then (some true) else ((laws_toDisk.f k l0_0).bind fun t321 => ((laws_toActS.f k l1).bind fun t324 => ((spec_DoActs.f k t321 t324).bind fun bt327 => ((laws_toDisk.f k l0_0).bind fun t332 => ((laws_toActS.f k l1).bind fun t336 => ((impl_DoActs.f k t332 t336).bind fun bt339 => ((laws_eqDisk.f k bt339.1 bt327.1).bind fun t344 => (if t344 = true then (laws_FnExactDoActs.j0 k l1 bt327.2 t336 bt339.2 (bt339.2 != bt327.2) l0_0 bt327.1 t332 bt339.1) else (laws_FnExactDoActs.j0 k l1 bt327.2 t336 bt339.2 true l0_0 bt327.1 t332 bt339.1))))))))))))) = some r := h
 clear h
 replace H := Option.bind_eq_some_iff.mp H
 obtain ⟨t319, A30, H⟩ := H
 have A3 := Aside0.mk A30
 clear A30
 by_cases c4 : t319 < 0
 ·rw [if_pos c4] at H
  have c4b0 := decide_eq_true c4
  clear c4
  obtain rfl := Option.some.inj H
  go_enter Try.func9, Try.ntmps9
  go_wp2_with (first | ((with_reducible refine gate_dst (N := 2) rfl ?_); refine zx (N := 2) (cs := #[.slice A0_0 l0_0.length c0_0]) (t := 24) ?_; intro gb318 hg w5 hbox hb; have BK318 := Aside0.mk (hbox); have GW318 := zg HB hg; have GE318 := zg HB hg; replace HB := zs HB hb; clear hb hbox hg; obtain ⟨m6_0, n6_0⟩ := zc1 BK318) | ((with_reducible refine gate_callee (f := 12) rfl ?_); refine zG (some 19) Try.func12 #[.agg #[.slice A0_0 l0_0.length c0_0], .int .i64 1048576] ?_; (with_reducible refine (laws_szDisk.calls k _ _ l0_0 1048576 t319 _ ?side1 ?side2 A3.out).mono ?_); (case side1 => exact zI (Kd.C_below HR0_0.out HB.out)); (case side2 => exact HC0_0.out); rintro e w7 ⟨rfl, hb⟩; refine ⟨_, rfl, ?_⟩; replace BK318 := zb BK318 hb; replace HB := zs HB hb; clear hb))
  go_ret
  exact ⟨ze, zw HB⟩
 rw [if_neg c4] at H
 have c4b0 := decide_eq_false c4
 clear c4
 replace H := Option.bind_eq_some_iff.mp H
 obtain ⟨t320, A80, H⟩ := H
 have A8 := Aside0.mk A80
 clear A80
 by_cases c9 : t320 < 0
 ·rw [if_pos c9] at H
  have c9b0 := decide_eq_true c9
  clear c9
  obtain rfl := Option.some.inj H
  go_enter Try.func9, Try.ntmps9
  go_wp2_with (first | ((with_reducible refine gate_dst (N := 2) rfl ?_); refine zx (N := 2) (cs := #[.slice A0_0 l0_0.length c0_0]) (t := 24) ?_; intro gb318 hg w10 hbox hb; have BK318 := Aside0.mk (hbox); have GW318 := zg HB hg; have GE318 := zg HB hg; replace HB := zs HB hb; clear hb hbox hg; obtain ⟨m11_0, n11_0⟩ := zc1 BK318) | ((with_reducible refine gate_callee (f := 12) rfl ?_); refine zG (some 19) Try.func12 #[.agg #[.slice A0_0 l0_0.length c0_0], .int .i64 1048576] ?_; (with_reducible refine (laws_szDisk.calls k _ _ l0_0 1048576 t319 _ ?side1 ?side2 A3.out).mono ?_); (case side1 => exact zI (Kd.C_below HR0_0.out HB.out)); (case side2 => exact HC0_0.out); rintro e w12 ⟨rfl, hb⟩; refine ⟨_, rfl, ?_⟩; replace BK318 := zb BK318 hb; replace HB := zs HB hb; clear hb) | ((with_reducible refine gate_callee (f := 38) rfl ?_); refine zG (some 24) Try.func38 #[.slice A1 l1.length c1, .int .i64 t319] ?_; (with_reducible refine (laws_szActS.calls k _ _ l1 t319 t320 _ ?side1 ?side2 A8.out).mono ?_); (case side1 => exact zI (Kd.C_below HR1.out HB.out)); (case side2 => exact HC1.out); rintro e w13 ⟨rfl, hb⟩; refine ⟨_, rfl, ?_⟩; replace BK318 := zb BK318 hb; replace HB := zs HB hb; clear hb))
  go_ret
  exact ⟨ze, zw HB⟩
 rw [if_neg c9] at H
 have c9b0 := decide_eq_false c9
 clear c9
 replace H := Option.bind_eq_some_iff.mp H
 obtain ⟨t321, A140, H⟩ := H
 have A14 := Aside0.mk A140
 clear A140
 replace H := Option.bind_eq_some_iff.mp H
 obtain ⟨t324, A150, H⟩ := H
 have A15 := Aside0.mk A150
 clear A150
 replace H := Option.bind_eq_some_iff.mp H
 obtain ⟨⟨t327, t330⟩, A160, H⟩ := H
 replace H : ((laws_toDisk.f k l0_0).bind fun t332 => ((laws_toActS.f k l1).bind fun t336 => ((impl_DoActs.f k t332 t336).bind fun bt339 => ((laws_eqDisk.f k bt339.1 t327).bind fun t344 => (if t344 = true then (laws_FnExactDoActs.j0 k l1 t330 t336 bt339.2 (bt339.2 != t330) l0_0 t327 t332 bt339.1) else (laws_FnExactDoActs.j0 k l1 t330 t336 bt339.2 true l0_0 t327 t332 bt339.1)))))) = some r := H
 have A16 := Aside0.mk A160
 clear A160
 replace H := Option.bind_eq_some_iff.mp H
 obtain ⟨t332, A170, H⟩ := H
 have A17 := Aside0.mk A170
 clear A170
 replace H := Option.bind_eq_some_iff.mp H
 obtain ⟨t336, A180, H⟩ := H
 have A18 := Aside0.mk A180
 clear A180
 replace H := Option.bind_eq_some_iff.mp H
 obtain ⟨⟨t339, t342⟩, A190, H⟩ := H
 replace H : ((laws_eqDisk.f k t339 t327).bind fun t344 => (if t344 = true then (laws_FnExactDoActs.j0 k l1 t330 t336 t342 (t342 != t330) l0_0 t327 t332 t339) else (laws_FnExactDoActs.j0 k l1 t330 t336 t342 true l0_0 t327 t332 t339))) = some r := H
 have A19 := Aside0.mk A190
 clear A190
 have HC20 := Aside0.mk H
 clear H
 go_enter Try.func9, Try.ntmps9
 go_upto_region 12 with (first | ((with_reducible refine gate_dst (N := 2) rfl ?_); refine zx (N := 2) (cs := #[.slice A0_0 l0_0.length c0_0]) (t := 24) ?_; intro gb318 hg w21 hbox hb; have BK318 := Aside0.mk (hbox); have GW318 := zg HB hg; have GE318 := zg HB hg; replace HB := zs HB hb; clear hb hbox hg; obtain ⟨m22_0, n22_0⟩ := zc1 BK318) | ((with_reducible refine gate_callee (f := 12) rfl ?_); refine zG (some 19) Try.func12 #[.agg #[.slice A0_0 l0_0.length c0_0], .int .i64 1048576] ?_; (with_reducible refine (laws_szDisk.calls k _ _ l0_0 1048576 t319 _ ?side1 ?side2 A3.out).mono ?_); (case side1 => exact zI (Kd.C_below HR0_0.out HB.out)); (case side2 => exact HC0_0.out); rintro e w23 ⟨rfl, hb⟩; refine ⟨_, rfl, ?_⟩; replace BK318 := zb BK318 hb; replace HB := zs HB hb; clear hb) | ((with_reducible refine gate_callee (f := 38) rfl ?_); refine zG (some 24) Try.func38 #[.slice A1 l1.length c1, .int .i64 t319] ?_; (with_reducible refine (laws_szActS.calls k _ _ l1 t319 t320 _ ?side1 ?side2 A8.out).mono ?_); (case side1 => exact zI (Kd.C_below HR1.out HB.out)); (case side2 => exact HC1.out); rintro e w24 ⟨rfl, hb⟩; refine ⟨_, rfl, ?_⟩; replace BK318 := zb BK318 hb; replace HB := zs HB hb; clear hb; obtain ⟨m25_0, n25_0⟩ := zc1 BK318) | ((with_reducible refine gate_callee (f := 14) rfl ?_); refine zG (some 29) Try.func14 #[.agg #[.slice A0_0 l0_0.length c0_0]] ?_; (with_reducible refine (laws_toDisk.calls k _ _ l0_0 t321 _ ?side1 ?side2 A14.out).mono ?_); (case side1 => exact zI (Kd.C_below HR0_0.out HB.out)); (case side2 => exact HC0_0.out); rintro e w26 ⟨v322, rfl, ho0, hb⟩; refine ⟨_, rfl, ?_⟩; have HO323 := Aside0.mk (Kd.R_lower ho0 (below_size (zw HB))); replace BK318 := zb BK318 hb; replace HB := zs HB hb; clear ho0 hb) | ((with_reducible refine gate_callee (f := 40) rfl ?_); refine zG (some 31) Try.func40 #[.slice A1 l1.length c1] ?_; (with_reducible refine (laws_toActS.calls k _ _ l1 t324 _ ?side1 ?side2 A15.out).mono ?_); (case side1 => exact zI (Kd.C_below HR1.out HB.out)); (case side2 => exact HC1.out); rintro e w27 ⟨v325, rfl, ho0, hb⟩; refine ⟨_, rfl, ?_⟩; replace HO323 := zy HO323 hb; have HO326 := Aside0.mk (Kd.R_lower ho0 (below_size (zw HB))); replace BK318 := zb BK318 hb; replace HB := zs HB hb; clear ho0 hb; obtain ⟨Ao28, co28, eo28⟩ := Kd.R_slice HO323.out; subst eo28; obtain ⟨Ao29, co29, eo29⟩ := Kd.R_slice HO326.out; subst eo29) | ((with_reducible refine gate_callee (f := 39) rfl ?_); refine zG (some 32) Try.func39 #[.agg #[.slice Ao28 t321.length co28], .slice Ao29 t324.length co29] ?_; (with_reducible refine (spec_DoActs.calls k _ _ t321 _ _ t324 t327 t330 _ ?side1 ?side2 ?side3 ?side4 A16.out).mono ?_); (case side1 => exact zI (Kd.R_reads' HO323.out).2.2); (case side2 => exact (Kd.R_reads' HO323.out).2.1); (case side3 => exact zI (Kd.R_reads' HO326.out).2.2); (case side4 => exact (Kd.R_reads' HO326.out).2.1); rintro e w30 ⟨v328, rfl, ho0, hb⟩; refine ⟨_, rfl, ?_⟩; replace HO326 := zy HO326 hb; have HO329 := Aside0.mk (Kd.R_lower (Kd.R_new' ho0 (Kd.R_lt (zo HO323.out))) (below_size (zw HB))); replace HO323 := Aside0.mk (Kd.R_elder' (zo HO323.out) (Kd.R_base ho0) hb); replace BK318 := zb BK318 hb; replace HB := zs HB hb; clear ho0 hb) | ((with_reducible refine gate_dst (N := 6) rfl ?_); refine zx (N := 6) (cs := #[.slice none 0 0]) (t := 29) ?_; intro gb331 hg w31 hbox hb; replace HO323 := zy HO323 hb; replace HO326 := zy HO326 hb; replace HO329 := zy HO329 hb; have BK331 := Aside0.mk (hbox); have GW331 := zg HB hg; have GE331 := zg HB hg; replace HB := zs HB hb; have NB318_331 := zl BK318 hg; have NB331_318 := zr BK318 hg; replace BK318 := zb BK318 hb; clear hb hbox hg; obtain ⟨Ao32, co32, eo32⟩ := Kd.R_slice HO329.out; subst eo32; have hnb33 := NB331_318.out; have hnc33 := NB318_331.out; obtain ⟨m34_0, n34_0⟩ := zc1 BK331; obtain ⟨m35_0, n35_0⟩ := zc1 BK318) | ((with_reducible refine gate_callee (f := 14) rfl ?_); refine zG (some 36) Try.func14 #[.agg #[.slice A0_0 l0_0.length c0_0]] ?_; (with_reducible refine (laws_toDisk.calls k _ _ l0_0 t332 _ ?side1 ?side2 A17.out).mono ?_); (case side1 => exact Kd.C_below HR0_0.out (zw HB)); (case side2 => exact HC0_0.out); rintro e w36 ⟨v333, rfl, ho0, hb⟩; refine ⟨_, rfl, ?_⟩; replace HO326 := Aside0.mk (Kd.R_below (zo ((Kd.R_mono (Kd.R_far (p := ⟨gb331, 0, none⟩) (Kd.R_types HO326.out BK331.out (by decide)) (fun _ hk => hk.2) (.slice Ao32 t327.length co32)) (fun _ h_ => h_.1)))) hb); have HO334 := Aside0.mk (Kd.R_lower (Kd.R_new' (Kd.R_new' ho0 (Kd.R_lt (zo ((Kd.R_mono (Kd.R_far (p := ⟨gb331, 0, none⟩) (Kd.R_types HO323.out BK331.out (by decide)) (fun _ hk => hk.2) (.slice Ao32 t327.length co32)) (fun _ h_ => h_.1)))))) (Kd.R_lt (zo ((Kd.R_mono (Kd.R_far (p := ⟨gb331, 0, none⟩) (Kd.R_types HO329.out BK331.out (by decide)) (fun _ hk => hk.2) (.slice Ao32 t327.length co32)) (fun _ h_ => h_.1)))))) (below_size (zw HB))); replace HO323 := Aside0.mk (Kd.R_elder' (zo ((Kd.R_mono (Kd.R_far (p := ⟨gb331, 0, none⟩) (Kd.R_types HO323.out BK331.out (by decide)) (fun _ hk => hk.2) (.slice Ao32 t327.length co32)) (fun _ h_ => h_.1)))) (Kd.R_base ho0) hb); replace HO329 := Aside0.mk (Kd.R_elder' (zo ((Kd.R_mono (Kd.R_far (p := ⟨gb331, 0, none⟩) (Kd.R_types HO329.out BK331.out (by decide)) (fun _ hk => hk.2) (.slice Ao32 t327.length co32)) (fun _ h_ => h_.1)))) (Kd.R_base ho0) hb); replace BK318 := zbf BK318 hb; replace BK331 := Aside0.mk (blk_below (g := gb331) (o := .cells #[.slice Ao32 t327.length co32] 29 (0, 0)) (by (with_reducible repeat (first | refine blk_drewN ?_ _ | refine blk_drew ?_ | refine blk_alloc ?_ _)); refine blk_put (cs := #[.slice none 0 0]) ?_ 0 _ rfl; (with_reducible repeat (first | refine blk_drewN ?_ _ | refine blk_drew ?_ | refine blk_alloc ?_ _)); exact BK331.out) hb); replace HB := zs HB hb; clear ho0 hb) | ((with_reducible refine gate_dst (N := 8) rfl ?_); refine zx (N := 8) (cs := #[.slice none 0 0]) (t := 29) ?_; intro gb335 hg w37 hbox hb; replace HO323 := zy HO323 hb; replace HO326 := zy HO326 hb; replace HO329 := zy HO329 hb; replace HO334 := zy HO334 hb; have BK335 := Aside0.mk (hbox); have GW335 := zg HB hg; have GE335 := zg HB hg; replace HB := zs HB hb; have NB318_335 := zl BK318 hg; have NB335_318 := zr BK318 hg; replace BK318 := zb BK318 hb; have NB331_335 := zl BK331 hg; have NB335_331 := zr BK331 hg; replace BK331 := zb BK331 hb; clear hb hbox hg; obtain ⟨Ao38, co38, eo38⟩ := Kd.R_slice HO334.out; subst eo38; have hnb39 := NB335_318.out; have hnc39 := NB318_335.out; have hnb40 := NB335_331.out; have hnc40 := NB331_335.out; obtain ⟨m41_0, n41_0⟩ := zc1 BK335) | ((with_reducible refine gate_callee (f := 40) rfl ?_); refine zG (some 38) Try.func40 #[.slice A1 l1.length c1] ?_; (with_reducible refine (laws_toActS.calls k _ _ l1 t336 _ ?side1 ?side2 A18.out).mono ?_); (case side1 => exact Kd.C_below HR1.out (zw HB)); (case side2 => exact HC1.out); rintro e w42 ⟨v337, rfl, ho0, hb⟩; refine ⟨_, rfl, ?_⟩; replace HO323 := Aside0.mk (Kd.R_below (zo ((Kd.R_mono (Kd.R_far (p := ⟨gb335, 0, none⟩) (Kd.R_types HO323.out BK335.out (by decide)) (fun _ hk => hk.2) (.slice Ao38 t332.length co38)) (fun _ h_ => h_.1)))) hb); replace HO329 := Aside0.mk (Kd.R_below (zo ((Kd.R_mono (Kd.R_far (p := ⟨gb335, 0, none⟩) (Kd.R_types HO329.out BK335.out (by decide)) (fun _ hk => hk.2) (.slice Ao38 t332.length co38)) (fun _ h_ => h_.1)))) hb); replace HO334 := Aside0.mk (Kd.R_below (zo ((Kd.R_mono (Kd.R_far (p := ⟨gb335, 0, none⟩) (Kd.R_types HO334.out BK335.out (by decide)) (fun _ hk => hk.2) (.slice Ao38 t332.length co38)) (fun _ h_ => h_.1)))) hb); have HO338 := Aside0.mk (Kd.R_lower (Kd.R_new' ho0 (Kd.R_lt (zo ((Kd.R_mono (Kd.R_far (p := ⟨gb335, 0, none⟩) (Kd.R_types HO326.out BK335.out (by decide)) (fun _ hk => hk.2) (.slice Ao38 t332.length co38)) (fun _ h_ => h_.1)))))) (below_size (zw HB))); replace HO326 := Aside0.mk (Kd.R_elder' (zo ((Kd.R_mono (Kd.R_far (p := ⟨gb335, 0, none⟩) (Kd.R_types HO326.out BK335.out (by decide)) (fun _ hk => hk.2) (.slice Ao38 t332.length co38)) (fun _ h_ => h_.1)))) (Kd.R_base ho0) hb); replace BK318 := zbf BK318 hb; replace BK331 := zbf BK331 hb; replace BK335 := Aside0.mk (blk_below (g := gb335) (o := .cells #[.slice Ao38 t332.length co38] 29 (0, 0)) (by (with_reducible repeat (first | refine blk_drewN ?_ _ | refine blk_drew ?_ | refine blk_alloc ?_ _)); refine blk_put (cs := #[.slice none 0 0]) ?_ 0 _ rfl; (with_reducible repeat (first | refine blk_drewN ?_ _ | refine blk_drew ?_ | refine blk_alloc ?_ _)); exact BK335.out) hb); replace HB := zs HB hb; clear ho0 hb; obtain ⟨m43_0, n43_0⟩ := zc1 BK335; obtain ⟨Ao44, co44, eo44⟩ := Kd.R_slice HO338.out; subst eo44) | ((with_reducible refine gate_callee (f := 41) rfl ?_); refine zG (some 42) Try.func41 #[.agg #[.slice Ao38 t332.length co38], .slice Ao44 t336.length co44] ?_; (with_reducible refine (impl_DoActs.calls k _ _ t332 _ _ t336 t339 t342 _ ?side1 ?side2 ?side3 ?side4 A19.out).mono ?_); (case side1 => exact zI (Kd.R_reads' HO334.out).2.2); (case side2 => exact (Kd.R_reads' HO334.out).2.1); (case side3 => exact zI (Kd.R_reads' HO338.out).2.2); (case side4 => exact (Kd.R_reads' HO338.out).2.1); rintro e w45 ⟨v340, rfl, ho0, hb⟩; refine ⟨_, rfl, ?_⟩; replace HO326 := zy HO326 hb; replace HO338 := zy HO338 hb; have HO341 := Aside0.mk (Kd.R_lower (Kd.R_new' (Kd.R_new' (Kd.R_new' ho0 (Kd.R_lt (zo HO323.out))) (Kd.R_lt (zo HO329.out))) (Kd.R_lt (zo HO334.out))) (below_size (zw HB))); replace HO323 := Aside0.mk (Kd.R_elder' (zo HO323.out) (Kd.R_base ho0) hb); replace HO329 := Aside0.mk (Kd.R_elder' (zo HO329.out) (Kd.R_base ho0) hb); replace HO334 := Aside0.mk (Kd.R_elder' (zo HO334.out) (Kd.R_base ho0) hb); replace BK318 := zb BK318 hb; replace BK331 := zb BK331 hb; replace BK335 := zb BK335 hb; replace HB := zs HB hb; clear ho0 hb) | ((with_reducible refine gate_dst (N := 10) rfl ?_); refine zx (N := 10) (cs := #[.slice none 0 0]) (t := 29) ?_; intro gb343 hg w46 hbox hb; replace HO323 := zy HO323 hb; replace HO326 := zy HO326 hb; replace HO329 := zy HO329 hb; replace HO334 := zy HO334 hb; replace HO338 := zy HO338 hb; replace HO341 := zy HO341 hb; have BK343 := Aside0.mk (hbox); have GW343 := zg HB hg; have GE343 := zg HB hg; replace HB := zs HB hb; have NB318_343 := zl BK318 hg; have NB343_318 := zr BK318 hg; replace BK318 := zb BK318 hb; have NB331_343 := zl BK331 hg; have NB343_331 := zr BK331 hg; replace BK331 := zb BK331 hb; have NB335_343 := zl BK335 hg; have NB343_335 := zr BK335 hg; replace BK335 := zb BK335 hb; clear hb hbox hg; obtain ⟨Ao47, co47, eo47⟩ := Kd.R_slice HO341.out; subst eo47; have hnb48 := NB343_318.out; have hnc48 := NB318_343.out; have hnb49 := NB343_331.out; have hnc49 := NB331_343.out; have hnb50 := NB343_335.out; have hnc50 := NB335_343.out; obtain ⟨m51_0, n51_0⟩ := zc1 BK343))
 (try simp only [Act.put, zA, zB, zC])
 go_cut [53] (fun v53 wc => ∃ (kq : Nat) (x53_19 : Bool), v53 = .bool x53_19 ∧ Aside0 (laws_FnExactDoActs.j0 kq l1 t330 t336 t342 x53_19 l0_0 t327 t332 t339 = some r) ∧ Aside0 (kq ≤ k) ∧ Aside0 (Kd.R k55 55 wc w.heap.size (fun _ => True) (.slice Ao44 t336.length co44) t336) ∧ Aside0 (Kd.R k45 45 wc w.heap.size (fun k_ => some k_ ≠ ((.slice Ao38 t332.length co38) : Value).ownBlock ∧ some k_ ≠ ((.slice Ao47 t339.length co47) : Value).ownBlock) (.slice Ao32 t327.length co32) t327) ∧ Aside0 (Kd.R k45 45 wc w.heap.size (fun k_ => some k_ ≠ ((.slice Ao32 t327.length co32) : Value).ownBlock ∧ some k_ ≠ ((.slice Ao47 t339.length co47) : Value).ownBlock) (.slice Ao38 t332.length co38) t332) ∧ Aside0 (Kd.R k45 45 wc w.heap.size (fun k_ => some k_ ≠ ((.slice Ao32 t327.length co32) : Value).ownBlock ∧ some k_ ≠ ((.slice Ao38 t332.length co38) : Value).ownBlock) (.slice Ao47 t339.length co47) t339) ∧ Aside0 (wc.heap[gb318]? = some (.cells #[(.slice A0_0 l0_0.length c0_0)] 24 (0, 0))) ∧ Aside0 (wc.heap[gb331]? = some (.cells #[(.slice Ao32 t327.length co32)] 29 (0, 0))) ∧ Aside0 (wc.heap[gb335]? = some (.cells #[(.slice Ao38 t332.length co38)] 29 (0, 0))) ∧ Aside0 (wc.heap[gb343]? = some (.cells #[(.slice Ao47 t339.length co47)] 29 (0, 0))) ∧ Aside0 (Below w.heap.size w wc))
 case first =>
  have H := HC20.out
  clear HC20
  replace H := Option.bind_eq_some_iff.mp H
  obtain ⟨t344, A520, H⟩ := H
  have A52 := Aside0.mk A520
  clear A520
  by_cases c53 : t344 = true
  ·subst c53
   rw [if_pos rfl] at H
   have H' := Aside0.mk H
   clear H
   have hnb54 := NB343_318.out
   have hnc54 := NB318_343.out
   have hnb55 := NB343_331.out
   have hnc55 := NB331_343.out
   have hnb56 := NB343_335.out
   have hnc56 := NB335_343.out
   obtain ⟨m57_0, n57_0⟩ := zc1 BK343
   have hnb58 := NB331_318.out
   have hnc58 := NB318_331.out
   have hnb59 := NB331_335.out
   have hnc59 := NB335_331.out
   obtain ⟨m60_0, n60_0⟩ := zc1 BK331
   go_wp2_with (first | ((with_reducible refine gate_callee (f := 16) rfl ?_); refine zG (some 47) Try.func16 #[.agg #[.slice Ao47 t339.length co47], .agg #[.slice Ao32 t327.length co32]] ?_; (with_reducible refine (laws_eqDisk.calls k _ _ t339 _ _ t327 true _ ?side1 ?side2 ?side3 ?side4 A52.out).mono ?_); (case side1 => refine (Kd.R_reads' (e := 45) (base := w.heap.size) (ok := fun k_ => (((True ∧ some k_ ≠ (.slice Ao28 t321.length co28 : Value).ownBlock) ∧ some k_ ≠ (.slice Ao32 t327.length co32 : Value).ownBlock) ∧ some k_ ≠ (.slice Ao38 t332.length co38 : Value).ownBlock)) (n := t339.length) (c := co47) ?_).2.2; exact (zo ((Kd.R_mono (Kd.R_far (p := ⟨gb343, 0, none⟩) (Kd.R_types HO341.out BK343.out (by decide)) (fun _ hk => hk.2) (.slice Ao47 t339.length co47)) (fun _ h_ => h_.1))))); (case side2 => exact (Kd.R_reads' HO341.out).2.1); (case side3 => refine (Kd.R_reads' (e := 45) (base := w.heap.size) (ok := fun k_ => (((True ∧ some k_ ≠ (.slice Ao28 t321.length co28 : Value).ownBlock) ∧ some k_ ≠ (.slice Ao38 t332.length co38 : Value).ownBlock) ∧ some k_ ≠ (.slice Ao47 t339.length co47 : Value).ownBlock)) (n := t327.length) (c := co32) ?_).2.2; exact (zo ((Kd.R_mono (Kd.R_far (p := ⟨gb343, 0, none⟩) (Kd.R_types HO329.out BK343.out (by decide)) (fun _ hk => hk.2) (.slice Ao47 t339.length co47)) (fun _ h_ => h_.1))))); (case side4 => exact (Kd.R_reads' HO329.out).2.1); rintro e w61 ⟨rfl, hb⟩; refine ⟨_, rfl, ?_⟩; replace HO323 := Aside0.mk (Kd.R_below (zo ((Kd.R_mono (Kd.R_far (p := ⟨gb343, 0, none⟩) (Kd.R_types HO323.out BK343.out (by decide)) (fun _ hk => hk.2) (.slice Ao47 t339.length co47)) (fun _ h_ => h_.1)))) hb); replace HO326 := Aside0.mk (Kd.R_below (zo ((Kd.R_mono (Kd.R_far (p := ⟨gb343, 0, none⟩) (Kd.R_types HO326.out BK343.out (by decide)) (fun _ hk => hk.2) (.slice Ao47 t339.length co47)) (fun _ h_ => h_.1)))) hb); replace HO329 := Aside0.mk (Kd.R_below (zo ((Kd.R_mono (Kd.R_far (p := ⟨gb343, 0, none⟩) (Kd.R_types HO329.out BK343.out (by decide)) (fun _ hk => hk.2) (.slice Ao47 t339.length co47)) (fun _ h_ => h_.1)))) hb); replace HO334 := Aside0.mk (Kd.R_below (zo ((Kd.R_mono (Kd.R_far (p := ⟨gb343, 0, none⟩) (Kd.R_types HO334.out BK343.out (by decide)) (fun _ hk => hk.2) (.slice Ao47 t339.length co47)) (fun _ h_ => h_.1)))) hb); replace HO338 := Aside0.mk (Kd.R_below (zo ((Kd.R_mono (Kd.R_far (p := ⟨gb343, 0, none⟩) (Kd.R_types HO338.out BK343.out (by decide)) (fun _ hk => hk.2) (.slice Ao47 t339.length co47)) (fun _ h_ => h_.1)))) hb); replace HO341 := Aside0.mk (Kd.R_below (zo ((Kd.R_mono (Kd.R_far (p := ⟨gb343, 0, none⟩) (Kd.R_types HO341.out BK343.out (by decide)) (fun _ hk => hk.2) (.slice Ao47 t339.length co47)) (fun _ h_ => h_.1)))) hb); replace BK318 := zbf BK318 hb; replace BK331 := zbf BK331 hb; replace BK335 := zbf BK335 hb; replace BK343 := Aside0.mk (blk_below (g := gb343) (o := .cells #[.slice Ao47 t339.length co47] 29 (0, 0)) (by (with_reducible repeat (first | refine blk_drewN ?_ _ | refine blk_drew ?_ | refine blk_alloc ?_ _)); refine blk_put (cs := #[.slice none 0 0]) ?_ 0 _ rfl; (with_reducible repeat (first | refine blk_drewN ?_ _ | refine blk_drew ?_ | refine blk_alloc ?_ _)); exact BK343.out) hb); replace HB := zs HB hb; clear hb))
   go_meet
   case rel => exact ⟨_, ((t342 != t330)), zf, H', ⟨by first | omega | exact Nat.le_refl _⟩, ⟨zo (Kd.R_mono HO338.out (fun _ hk => trivial))⟩, ⟨zo (Kd.R_mono HO329.out (fun _ hk => ⟨hk.1.2, hk.2⟩))⟩, ⟨zo (Kd.R_mono HO334.out (fun _ hk => ⟨hk.1.2, hk.2⟩))⟩, ⟨zo (Kd.R_mono HO341.out (fun _ hk => ⟨hk.1.2, hk.2⟩))⟩, ⟨zkf BK318⟩, ⟨zkf BK331⟩, ⟨zkf BK335⟩, ⟨zkf BK343⟩, ⟨zw HB⟩⟩
  replace c53 := Bool.eq_false_iff.mpr c53
  subst c53
  rw [if_neg (show ¬ (false = true) by decide)] at H
  exact absurd (H.trans (congrArg some HR_.out)) laws_FnExactDoActs.j0_t
 case rest =>
  clear HC20
  try clear c1
  try clear p2
  try clear c3
  try clear c4
  try clear c4b0
  try clear c5
  try clear c6
  try clear c9
  try clear c9b0
  try clear c12
  try clear c14
  try clear c16
  try clear c33
  try clear c38
  try clear c39
  try clear c40
  try clear c41
  try clear c48
  try clear c49
  try clear c50
  try clear c53
  try clear c54
  try clear c55
  try clear c56
  try clear c58
  try clear c59
  try clear c62
  try clear c63
  try clear c64
  try clear c66
  try clear c67
  try clear m11_0
  try clear m22_0
  try clear m25_0
  try clear m34_0
  try clear m35_0
  try clear m41_0
  try clear m43_0
  try clear m51_0
  try clear m57_0
  try clear m60_0
  try clear m65_0
  try clear m68_0
  try clear m6_0
  try clear n11_0
  try clear n22_0
  try clear n25_0
  try clear n34_0
  try clear n35_0
  try clear n41_0
  try clear n43_0
  try clear n51_0
  try clear n57_0
  try clear n60_0
  try clear n65_0
  try clear n68_0
  try clear n6_0
  obtain ⟨kq, x53_19, rfl, HA, HJ19, HO_9, HO_332000, HO_336000, HO_344000, BK318, BK331, BK335, BK343, HB⟩ := hcut
  cases kq with
  | zero => exact absurd HA.out (by simp [laws_FnExactDoActs.j0])
  | succ kj19 =>
   have H := HA.out
   clear HA
   simp only [laws_FnExactDoActs.j0] at H
   by_cases c70 : x53_19 = true
   ·subst c70
    rw [if_pos rfl] at H
    obtain rfl := Option.some.inj H
    exact absurd HR_.out (by decide)
   replace c70 := Bool.eq_false_iff.mpr c70
   subst c70
   rw [if_neg (show ¬ (false = true) by decide)] at H
   replace H := Option.bind_eq_some_iff.mp H
   obtain ⟨t345, A710, H⟩ := H
   have A71 := Aside0.mk A710
   clear A710
   replace H := Option.bind_eq_some_iff.mp H
   obtain ⟨t348, A720, H⟩ := H
   have A72 := Aside0.mk A720
   clear A720
   by_cases c73 : t348 = true
   ·subst c73
    rw [if_pos rfl] at H
    replace H := Option.bind_eq_some_iff.mp H
    obtain ⟨t349, A740, H⟩ := H
    have A74 := Aside0.mk A740
    clear A740
    replace H := Option.bind_eq_some_iff.mp H
    obtain ⟨t352, A750, H⟩ := H
    have A75 := Aside0.mk A750
    clear A750
    by_cases c76 : t352 = true
    ·subst c76
     rw [if_pos rfl] at H
     replace H := Option.bind_eq_some_iff.mp H
     obtain ⟨⟨t353, t354⟩, A770, H⟩ := H
     replace H : ((laws_markActS.f kj19 t336 t353).bind fun bt355 => (if bt355.1 < 0 then (laws_FnExactDoActs.j1 kj19 l1 t330 true l0_0 t327 t339) else ((laws_eqDisk.f kj19 t339 t327).bind fun t357 => (if t357 = true then (laws_FnExactDoActs.j1 kj19 l1 t330 (t342 != t330) l0_0 t327 t339) else (laws_FnExactDoActs.j1 kj19 l1 t330 true l0_0 t327 t339))))) = some r := H
     have A77 := Aside0.mk A770
     clear A770
     replace H := Option.bind_eq_some_iff.mp H
     obtain ⟨⟨t355, t356⟩, A780, H⟩ := H
     replace H : (if t355 < 0 then (laws_FnExactDoActs.j1 kj19 l1 t330 true l0_0 t327 t339) else ((laws_eqDisk.f kj19 t339 t327).bind fun t357 => (if t357 = true then (laws_FnExactDoActs.j1 kj19 l1 t330 (t342 != t330) l0_0 t327 t339) else (laws_FnExactDoActs.j1 kj19 l1 t330 true l0_0 t327 t339)))) = some r := H
     have A78 := Aside0.mk A780
     clear A780
     have HC79 := Aside0.mk H
     clear H
     try go_wp2
     replace HO_9 := Aside0.mk (Kd.R_drew HO_9.out)
     replace HO_332000 := Aside0.mk (Kd.R_drew HO_332000.out)
     replace HO_336000 := Aside0.mk (Kd.R_drew HO_336000.out)
     replace HO_344000 := Aside0.mk (Kd.R_drew HO_344000.out)
     replace BK318 := Aside0.mk (blk_drew BK318.out)
     replace BK331 := Aside0.mk (blk_drew BK331.out)
     replace BK335 := Aside0.mk (blk_drew BK335.out)
     replace BK343 := Aside0.mk (blk_drew BK343.out)
     replace HB := Aside0.mk (below_drew1 HB.out)
     refine start_ (n := 5) (S := fun w' => w'.cell? ⟨gb335, 0, none⟩ = some (.slice Ao38 t332.length co38) ∧ w'.cell? ⟨gb318, 0, none⟩ = some (.slice A0_0 l0_0.length c0_0)) (ds := []) #[false, false, false, false, false] (by kernel_rfl) rfl rfl ⟨zv BK335, zv BK318⟩ (fun hHeld => ?_)
     generalize wc.drew = w80 at HO_9 HO_332000 HO_336000 HO_344000 BK318 BK331 BK335 BK343 HB hHeld ⊢
     refine take_ (i := 0) (N := some 54) (v := ?_) (a' := ?_) #[true, false, false, false, false] rfl rfl (by kernel_rfl) (fun _ _ _ h => h) (Or.inl ⟨by rfl, ?_⟩) hHeld ?_ ?_
     rotate_left
     ·rintro w' ⟨s0, s1⟩
      go_simp
      with_reducible rfl
     rotate_left
     ·simp only [Act.put, zA, zB, zC, i64_w, i32_w]
      rfl
     refine take_ (i := 1) (N := some 55) (v := ?_) (a' := ?_) #[true, true, false, false, false] rfl rfl (by kernel_rfl) (fun _ _ _ h => h) (Or.inl ⟨by rfl, ?_⟩) hHeld ?_ ?_
     rotate_left
     ·rintro w' ⟨s0, s1⟩
      go_simp
      with_reducible rfl
     rotate_left
     ·simp only [Act.put, zA, zB, zC, i64_w, i32_w]
      rfl
     refine one_ (i := 2) (N := some 56) #[true, true, true, false, false] rfl rfl (by kernel_rfl) (by decide) (fun K hK => ?_)
     refine zH Try.func14 #[.agg #[.slice A0_0 l0_0.length c0_0]] ?_
     with_reducible refine (laws_toDisk.calls kj19 _ _ l0_0 t345 _ ?side1 ?side2 A71.out).mono ?_
     (case side1 => exact zI (Kd.C_below HR0_0.out HB.out))
     (case side2 => exact HC0_0.out)
     rintro e w81 ⟨v346, rfl, ho0, hb⟩
     refine ⟨_, rfl, ?_⟩
     replace HO_9 := zy HO_9 hb
     have HO347 := Aside0.mk (Kd.R_lower (Kd.R_new' (Kd.R_new' (Kd.R_new' ho0 (Kd.R_lt (zo HO_332000.out))) (Kd.R_lt (zo HO_336000.out))) (Kd.R_lt (zo HO_344000.out))) (below_size (zw HB)))
     replace HO_332000 := Aside0.mk (Kd.R_elder' (zo HO_332000.out) (Kd.R_base ho0) hb)
     replace HO_336000 := Aside0.mk (Kd.R_elder' (zo HO_336000.out) (Kd.R_base ho0) hb)
     replace HO_344000 := Aside0.mk (Kd.R_elder' (zo HO_344000.out) (Kd.R_base ho0) hb)
     replace BK318 := zb BK318 hb
     replace BK331 := zb BK331 hb
     replace BK335 := zb BK335 hb
     replace BK343 := zb BK343 hb
     replace HB := zs HB hb
     (try clear hb)
     (try clear hb2)
     (try clear hk)
     (try clear hi)
     (try clear ho0)
     obtain ⟨Ao82, co82, eo82⟩ := Kd.R_slice HO347.out
     (first | subst eo82 | (injection eo82 with f1_ f2_ f3_; have f4_ := f1_.symm; have f5_ := f3_.symm; clear f1_ f2_ f3_; subst f4_; subst f5_))
     refine hK.out _ _ ⟨zv BK335, zv BK318⟩ (fun hHeld => ?_)
     clear hK K
     refine zN ?_
     refine one_ (i := 3) (N := some 57) #[true, true, true, true, false] rfl rfl (by kernel_rfl) (by decide) (fun K hK => ?_)
     refine zH Try.func16 #[.agg #[.slice Ao38 t332.length co38], .agg #[.slice Ao82 t345.length co82]] ?_
     with_reducible refine (laws_eqDisk.calls kj19 _ _ t332 _ _ t345 true _ ?side1 ?side2 ?side3 ?side4 A72.out).mono ?_
     (case side1 => exact zI (Kd.R_reads' HO_336000.out).2.2)
     (case side2 => exact (Kd.R_reads' HO_336000.out).2.1)
     (case side3 => exact zI (Kd.R_reads' HO347.out).2.2)
     (case side4 => exact (Kd.R_reads' HO347.out).2.1)
     rintro e w83 ⟨rfl, hb⟩
     refine ⟨_, rfl, ?_⟩
     replace HO_9 := zy HO_9 hb
     replace HO_332000 := zy HO_332000 hb
     replace HO_336000 := zy HO_336000 hb
     replace HO_344000 := zy HO_344000 hb
     replace HO347 := zy HO347 hb
     replace BK318 := zb BK318 hb
     replace BK331 := zb BK331 hb
     replace BK335 := zb BK335 hb
     replace BK343 := zb BK343 hb
     replace HB := zs HB hb
     (try clear hb)
     (try clear hb2)
     (try clear hk)
     (try clear hi)
     refine hK.out _ _ ⟨zv BK335, zv BK318⟩ (fun hHeld => ?_)
     clear hK K
     refine zN ?_
     refine pure_ (i := 4) (N := some 58) (v := ?_) (a' := ?_) #[true, true, true, true, true] rfl rfl (by kernel_rfl) (fun _ _ _ h => h) (Or.inl ⟨by rfl, ?_⟩) ?_ ?_
     rotate_left
     ·intro w'
      go_simp
      with_reducible rfl
     rotate_left
     ·simp only [Act.put, zA, zB, zC, i64_w, i32_w]
      rfl
     refine done_ (by kernel_rfl) ?_
     go_upto_region 21 with (first | ((with_reducible refine gate_callee (f := 40) rfl ?_); refine zG (some 61) Try.func40 #[.slice A1 l1.length c1] ?_; (with_reducible refine (laws_toActS.calls kj19 _ _ l1 t349 _ ?side1 ?side2 A74.out).mono ?_); (case side1 => exact zI (Kd.C_below HR1.out HB.out)); (case side2 => exact HC1.out); rintro e w84 ⟨v350, rfl, ho0, hb⟩; refine ⟨_, rfl, ?_⟩; replace HO_332000 := zy HO_332000 hb; replace HO_336000 := zy HO_336000 hb; replace HO_344000 := zy HO_344000 hb; replace HO347 := zy HO347 hb; have HO351 := Aside0.mk (Kd.R_lower (Kd.R_new' ho0 (Kd.R_lt (zo HO_9.out))) (below_size (zw HB))); replace HO_9 := Aside0.mk (Kd.R_elder' (zo HO_9.out) (Kd.R_base ho0) hb); replace BK318 := zb BK318 hb; replace BK331 := zb BK331 hb; replace BK335 := zb BK335 hb; replace BK343 := zb BK343 hb; replace HB := zs HB hb; clear ho0 hb; obtain ⟨Ao85, co85, eo85⟩ := Kd.R_slice HO351.out; subst eo85) | ((with_reducible refine gate_callee (f := 42) rfl ?_); refine zG (some 62) Try.func42 #[.slice Ao44 t336.length co44, .slice Ao85 t349.length co85] ?_; (with_reducible refine (laws_eqActS.calls kj19 _ _ t336 _ _ t349 true _ ?side1 ?side2 ?side3 ?side4 A75.out).mono ?_); (case side1 => exact zI (Kd.R_reads' HO_9.out).2.2); (case side2 => exact (Kd.R_reads' HO_9.out).2.1); (case side3 => exact zI (Kd.R_reads' HO351.out).2.2); (case side4 => exact (Kd.R_reads' HO351.out).2.1); rintro e w86 ⟨rfl, hb⟩; refine ⟨_, rfl, ?_⟩; replace HO_9 := zy HO_9 hb; replace HO_332000 := zy HO_332000 hb; replace HO_336000 := zy HO_336000 hb; replace HO_344000 := zy HO_344000 hb; replace HO347 := zy HO347 hb; replace HO351 := zy HO351 hb; replace BK318 := zb BK318 hb; replace BK331 := zb BK331 hb; replace BK335 := zb BK335 hb; replace BK343 := zb BK343 hb; replace HB := zs HB hb; clear hb; have hnb87 := NB335_318.out; have hnc87 := NB318_335.out; have hnb88 := NB335_331.out; have hnc88 := NB331_335.out; have hnb89 := NB335_343.out; have hnc89 := NB343_335.out; obtain ⟨m90_0, n90_0⟩ := zc1 BK335) | ((with_reducible refine gate_callee (f := 31) rfl ?_); refine zG (some 66) Try.func31 #[.agg #[.slice Ao38 t332.length co38], .int .i64 1] ?_; (with_reducible refine (laws_markDisk.calls kj19 (fun k_ => some k_ = (.slice Ao38 t332.length co38 : Value).ownBlock) (.slice Ao38 t332.length co38) t332 1 t353 t354 w _ ?side1 ?side2 A77.out).mono ?_); (case side1 => exact zw HB); (case side2 => exact Kd.R_tight rfl HO_336000.out); rintro e w91 ⟨rfl, hy0, hb, hkp⟩; refine ⟨_, rfl, ?_⟩; replace HO_9 := Aside0.mk (Kd.R_mono (ok' := fun k_ => some k_ ≠ (.slice Ao85 t349.length co85 : Value).ownBlock) (Kd.R_keptB ((Kd.R_apart' HO_9.out (Kd.R_typed HO_336000.out) (by decide))) hkp (fun k_ hk_ hs_ => (hk_.2) hs_)) (fun k_ hk_ => hk_.1.1.2)); replace HO_332000 := Aside0.mk (Kd.R_mono (ok' := fun k_ => some k_ ≠ (.slice Ao38 t332.length co38 : Value).ownBlock ∧ some k_ ≠ (.slice Ao47 t339.length co47 : Value).ownBlock ∧ some k_ ≠ (.slice Ao82 t345.length co82 : Value).ownBlock) (Kd.R_keptB (HO_332000.out) hkp (fun k_ hk_ hs_ => (hk_.1.1) hs_)) (fun k_ hk_ => ⟨hk_.1.1.1, hk_.1.1.2, hk_.1.2⟩)); replace HO_344000 := Aside0.mk (Kd.R_mono (ok' := fun k_ => some k_ ≠ (.slice Ao32 t327.length co32 : Value).ownBlock ∧ some k_ ≠ (.slice Ao38 t332.length co38 : Value).ownBlock ∧ some k_ ≠ (.slice Ao82 t345.length co82 : Value).ownBlock) (Kd.R_keptB (HO_344000.out) hkp (fun k_ hk_ hs_ => (hk_.1.2) hs_)) (fun k_ hk_ => ⟨hk_.1.1.1, hk_.1.1.2, hk_.1.2⟩)); replace BK318 := Aside0.mk (blk_kept (zk BK318) hkp (fun hs_ => (fun e_ => (Kd.R_ne HO_336000.out BK318.out (by decide)) e_) hs_)); replace BK331 := Aside0.mk (blk_kept (zk BK331) hkp (fun hs_ => (fun e_ => (Kd.R_ne HO_336000.out BK331.out (by decide)) e_) hs_)); replace BK335 := Aside0.mk (blk_kept (zk BK335) hkp (fun hs_ => (fun e_ => (Kd.R_ne HO_336000.out BK335.out (by decide)) e_) hs_)); replace BK343 := Aside0.mk (blk_kept (zk BK343) hkp (fun hs_ => (fun e_ => (Kd.R_ne HO_336000.out BK343.out (by decide)) e_) hs_)); replace HO347 := Aside0.mk (Kd.R_mono (ok' := fun k_ => some k_ ≠ (.slice Ao32 t327.length co32 : Value).ownBlock ∧ some k_ ≠ (.slice Ao38 t332.length co38 : Value).ownBlock ∧ some k_ ≠ (.slice Ao47 t339.length co47 : Value).ownBlock) (Kd.R_keptB (HO347.out) hkp (fun k_ hk_ hs_ => (hk_.1.2) hs_)) (fun k_ hk_ => ⟨hk_.1.1.1.2, hk_.1.1.2, hk_.1.2⟩)); replace HO351 := Aside0.mk (Kd.R_mono (ok' := fun k_ => some k_ ≠ (.slice Ao44 t336.length co44 : Value).ownBlock) (Kd.R_keptB ((Kd.R_apart' HO351.out (Kd.R_typed HO_336000.out) (by decide))) hkp (fun k_ hk_ hs_ => (hk_.2) hs_)) (fun k_ hk_ => hk_.1.1.2)); replace HO_336000 := Aside0.mk (Kd.R_reok rfl hy0 (fun k_ e_ => HO_336000.out.1 k_ e_)); replace HB := Aside0.mk (hb); clear hb; (try clear hkp); (try clear hy0)) | ((with_reducible refine gate_callee (f := 43) rfl ?_); refine zG (some 69) Try.func43 #[.slice Ao44 t336.length co44, .int .i64 t353] ?_; (with_reducible refine (laws_markActS.calls kj19 (fun k_ => some k_ = (.slice Ao44 t336.length co44 : Value).ownBlock) (.slice Ao44 t336.length co44) t336 t353 t355 t356 w _ ?side1 ?side2 A78.out).mono ?_); (case side1 => exact zw HB); (case side2 => exact Kd.R_tight rfl HO_9.out); rintro e w92 ⟨rfl, hy0, hb, hkp⟩; refine ⟨_, rfl, ?_⟩; replace HO_332000 := Aside0.mk (Kd.R_mono (ok' := fun k_ => some k_ ≠ (.slice Ao38 t332.length co38 : Value).ownBlock ∧ some k_ ≠ (.slice Ao47 t339.length co47 : Value).ownBlock ∧ some k_ ≠ (.slice Ao82 t345.length co82 : Value).ownBlock) (Kd.R_keptB ((Kd.R_apart' HO_332000.out (Kd.R_typed HO_9.out) (by decide))) hkp (fun k_ hk_ hs_ => (hk_.2) hs_)) (fun k_ hk_ => ⟨hk_.1.1.1, hk_.1.1.2.1, hk_.1.1.2.2⟩)); replace HO_336000 := Aside0.mk (Kd.R_mono (ok' := fun k_ => some k_ ≠ (.slice Ao32 t327.length co32 : Value).ownBlock ∧ some k_ ≠ (.slice Ao47 t339.length co47 : Value).ownBlock ∧ some k_ ≠ (.slice Ao82 t345.length co82 : Value).ownBlock) (Kd.R_keptB ((Kd.R_apart' HO_336000.out (Kd.R_typed HO_9.out) (by decide))) hkp (fun k_ hk_ hs_ => (hk_.2) hs_)) (fun k_ hk_ => ⟨hk_.1.1.1.1, hk_.1.1.1.2, hk_.1.1.2⟩)); replace HO_344000 := Aside0.mk (Kd.R_mono (ok' := fun k_ => some k_ ≠ (.slice Ao32 t327.length co32 : Value).ownBlock ∧ some k_ ≠ (.slice Ao38 t332.length co38 : Value).ownBlock ∧ some k_ ≠ (.slice Ao82 t345.length co82 : Value).ownBlock) (Kd.R_keptB ((Kd.R_apart' HO_344000.out (Kd.R_typed HO_9.out) (by decide))) hkp (fun k_ hk_ hs_ => (hk_.2) hs_)) (fun k_ hk_ => ⟨hk_.1.1.1, hk_.1.1.2.1, hk_.1.1.2.2⟩)); replace BK318 := Aside0.mk (blk_kept (zk BK318) hkp (fun hs_ => (fun e_ => (Kd.R_ne HO_9.out BK318.out (by decide)) e_) hs_)); replace BK331 := Aside0.mk (blk_kept (zk BK331) hkp (fun hs_ => (fun e_ => (Kd.R_ne HO_9.out BK331.out (by decide)) e_) hs_)); replace BK335 := Aside0.mk (blk_kept (zk BK335) hkp (fun hs_ => (fun e_ => (Kd.R_ne HO_9.out BK335.out (by decide)) e_) hs_)); replace BK343 := Aside0.mk (blk_kept (zk BK343) hkp (fun hs_ => (fun e_ => (Kd.R_ne HO_9.out BK343.out (by decide)) e_) hs_)); replace HO347 := Aside0.mk (Kd.R_mono (ok' := fun k_ => some k_ ≠ (.slice Ao32 t327.length co32 : Value).ownBlock ∧ some k_ ≠ (.slice Ao38 t332.length co38 : Value).ownBlock ∧ some k_ ≠ (.slice Ao47 t339.length co47 : Value).ownBlock) (Kd.R_keptB ((Kd.R_apart' HO347.out (Kd.R_typed HO_9.out) (by decide))) hkp (fun k_ hk_ hs_ => (hk_.2) hs_)) (fun k_ hk_ => ⟨hk_.1.1.1, hk_.1.1.2.1, hk_.1.1.2.2⟩)); replace HO_9 := Aside0.mk (Kd.R_reok rfl hy0 (fun k_ e_ => HO_9.out.1 k_ e_)); replace HO351 := Aside0.mk (Kd.R_mono (ok' := fun k_ => some k_ ≠ (.slice Ao44 t336.length co44 : Value).ownBlock) (Kd.R_keptB (HO351.out) hkp (fun k_ hk_ hs_ => (hk_) hs_)) (fun k_ hk_ => hk_.1)); replace HB := Aside0.mk (hb); clear hb; (try clear hkp); (try clear hy0)))
     (try simp only [Act.put, zA, zB, zC])
     go_cut [82] (fun v82 wc => ∃ (kq : Nat) (x82_78 : Bool), v82 = .bool x82_78 ∧ Aside0 (laws_FnExactDoActs.j1 kq l1 t330 x82_78 l0_0 t327 t339 = some r) ∧ Aside0 (kq ≤ kj19) ∧ Aside0 (Kd.R k45 45 wc w.heap.size (fun k_ => some k_ ≠ ((.slice Ao38 t332.length co38) : Value).ownBlock ∧ some k_ ≠ ((.slice Ao47 t339.length co47) : Value).ownBlock) (.slice Ao32 t327.length co32) t327) ∧ Aside0 (Kd.R k45 45 wc w.heap.size (fun k_ => some k_ ≠ ((.slice Ao32 t327.length co32) : Value).ownBlock ∧ some k_ ≠ ((.slice Ao47 t339.length co47) : Value).ownBlock) (.slice Ao38 t332.length co38) t354) ∧ Aside0 (Kd.R k45 45 wc w.heap.size (fun k_ => some k_ ≠ ((.slice Ao32 t327.length co32) : Value).ownBlock ∧ some k_ ≠ ((.slice Ao38 t332.length co38) : Value).ownBlock) (.slice Ao47 t339.length co47) t339) ∧ Aside0 (wc.heap[gb318]? = some (.cells #[(.slice A0_0 l0_0.length c0_0)] 24 (0, 0))) ∧ Aside0 (wc.heap[gb331]? = some (.cells #[(.slice Ao32 t327.length co32)] 29 (0, 0))) ∧ Aside0 (wc.heap[gb335]? = some (.cells #[(.slice Ao38 t332.length co38)] 29 (0, 0))) ∧ Aside0 (wc.heap[gb343]? = some (.cells #[(.slice Ao47 t339.length co47)] 29 (0, 0))) ∧ Aside0 (Below w.heap.size w wc))
     case first =>
      have H := HC79.out
      clear HC79
      by_cases c93 : t355 < 0
      ·rw [if_pos c93] at H
       have c93b0 := decide_eq_true c93
       clear c93
       (first | rw [c93b0] | (simp only [i64_w, i32_w]; rw [c93b0]) | skip)
       have H' := Aside0.mk H
       clear H
       go_wp2
       go_meet
       case rel => exact ⟨_, (true), zf, H', ⟨by have := HJ19.out; first | omega | exact Nat.le_refl _⟩, ⟨zo (Kd.R_mono HO_332000.out (fun _ hk => ⟨hk.1, hk.2.1⟩))⟩, ⟨zo (Kd.R_mono HO_336000.out (fun _ hk => ⟨hk.1, hk.2.1⟩))⟩, ⟨zo (Kd.R_mono HO_344000.out (fun _ hk => ⟨hk.1, hk.2.1⟩))⟩, ⟨zkf BK318⟩, ⟨zkf BK331⟩, ⟨zkf BK335⟩, ⟨zkf BK343⟩, ⟨zw HB⟩⟩
      rw [if_neg c93] at H
      have c93b0 := decide_eq_false c93
      clear c93
      (first | rw [c93b0] | (simp only [i64_w, i32_w]; rw [c93b0]) | skip)
      replace H := Option.bind_eq_some_iff.mp H
      obtain ⟨t357, A940, H⟩ := H
      have A94 := Aside0.mk A940
      clear A940
      by_cases c95 : t357 = true
      ·subst c95
       rw [if_pos rfl] at H
       have H' := Aside0.mk H
       clear H
       have hnb96 := NB343_318.out
       have hnc96 := NB318_343.out
       have hnb97 := NB343_331.out
       have hnc97 := NB331_343.out
       have hnb98 := NB343_335.out
       have hnc98 := NB335_343.out
       obtain ⟨m99_0, n99_0⟩ := zc1 BK343
       have hnb100 := NB331_318.out
       have hnc100 := NB318_331.out
       have hnb101 := NB331_335.out
       have hnc101 := NB335_331.out
       obtain ⟨m102_0, n102_0⟩ := zc1 BK331
       go_wp2_with (first | (go_at_call 16; (with_reducible refine (laws_eqDisk.calls kj19 _ _ t339 _ _ t327 true _ ?side1 ?side2 ?side3 ?side4 A94.out).mono ?_); (case side1 => exact zI (Kd.R_reads' HO_344000.out).2.2); (case side2 => exact (Kd.R_reads' HO_344000.out).2.1); (case side3 => exact zI (Kd.R_reads' HO_332000.out).2.2); (case side4 => exact (Kd.R_reads' HO_332000.out).2.1); rintro e w103 ⟨rfl, hb⟩; replace HO_9 := zy HO_9 hb; replace HO_332000 := zy HO_332000 hb; replace HO_336000 := zy HO_336000 hb; replace HO_344000 := zy HO_344000 hb; replace HO347 := zy HO347 hb; replace HO351 := zy HO351 hb; replace BK318 := zb BK318 hb; replace BK331 := zb BK331 hb; replace BK335 := zb BK335 hb; replace BK343 := zb BK343 hb; replace HB := zs HB hb; clear hb))
       go_meet
       case rel => exact ⟨_, ((t342 != t330)), zf, H', ⟨by have := HJ19.out; first | omega | exact Nat.le_refl _⟩, ⟨zo (Kd.R_mono HO_332000.out (fun _ hk => ⟨hk.1, hk.2.1⟩))⟩, ⟨zo (Kd.R_mono HO_336000.out (fun _ hk => ⟨hk.1, hk.2.1⟩))⟩, ⟨zo (Kd.R_mono HO_344000.out (fun _ hk => ⟨hk.1, hk.2.1⟩))⟩, ⟨zkf BK318⟩, ⟨zkf BK331⟩, ⟨zkf BK335⟩, ⟨zkf BK343⟩, ⟨zw HB⟩⟩
      replace c95 := Bool.eq_false_iff.mpr c95
      subst c95
      rw [if_neg (show ¬ (false = true) by decide)] at H
      exact absurd (H.trans (congrArg some HR_.out)) laws_FnExactDoActs.j1_t
     case rest =>
      clear HC79
      try clear c1
      try clear p2
      try clear c3
      try clear c4
      try clear c4b0
      try clear c5
      try clear c6
      try clear c7
      try clear c8
      try clear c9
      try clear c9b0
      try clear c10
      try clear c12
      try clear c14
      try clear c16
      try clear c31
      try clear c33
      try clear c38
      try clear c39
      try clear c40
      try clear c41
      try clear c42
      try clear c43
      try clear c48
      try clear c49
      try clear c50
      try clear c53
      try clear c54
      try clear c55
      try clear c56
      try clear c58
      try clear c59
      try clear c62
      try clear c63
      try clear c64
      try clear c66
      try clear c67
      try clear c70
      try clear c73
      try clear c76
      try clear c87
      try clear c88
      try clear c89
      try clear c93
      try clear c93b0
      try clear c95
      try clear c96
      try clear c97
      try clear c98
      try clear c100
      try clear c101
      try clear c104
      try clear c105
      try clear c106
      try clear c108
      try clear c109
      try clear m102_0
      try clear m107_0
      try clear m110_0
      try clear m11_0
      try clear m22_0
      try clear m25_0
      try clear m34_0
      try clear m35_0
      try clear m41_0
      try clear m43_0
      try clear m51_0
      try clear m57_0
      try clear m60_0
      try clear m65_0
      try clear m68_0
      try clear m6_0
      try clear m90_0
      try clear m99_0
      try clear n102_0
      try clear n107_0
      try clear n110_0
      try clear n11_0
      try clear n22_0
      try clear n25_0
      try clear n34_0
      try clear n35_0
      try clear n41_0
      try clear n43_0
      try clear n51_0
      try clear n57_0
      try clear n60_0
      try clear n65_0
      try clear n68_0
      try clear n6_0
      try clear n90_0
      try clear n99_0
      try clear p2
      obtain ⟨kq, x82_78, rfl, HA, HJ78, HO_332000, HO_336000, HO_344000, BK318, BK331, BK335, BK343, HB⟩ := hcut
      have hl336000_78 := (Kd.R_reads' HO_336000.out).1
      rw [hl336000_78] at HO_336000
      (try simp only [hl336000_78])
      (try simp only [hl336000_78] at BK318)
      (try simp only [hl336000_78] at BK331)
      (try simp only [hl336000_78] at BK335)
      (try simp only [hl336000_78] at BK343)
      (try simp only [hl336000_78] at HO_332000)
      (try simp only [hl336000_78] at HO_344000)
      cases kq with
      | zero => exact absurd HA.out (by simp [laws_FnExactDoActs.j1])
      | succ kj78 =>
       have H := HA.out
       clear HA
       simp only [laws_FnExactDoActs.j1] at H
       by_cases c112 : x82_78 = true
       ·subst c112
        rw [if_pos rfl] at H
        obtain rfl := Option.some.inj H
        exact absurd HR_.out (by decide)
       replace c112 := Bool.eq_false_iff.mpr c112
       subst c112
       rw [if_neg (show ¬ (false = true) by decide)] at H
       replace H := Option.bind_eq_some_iff.mp H
       obtain ⟨⟨t358, t359⟩, A1130, H⟩ := H
       replace H : ((laws_heldDisk.f kj78 t359 1).bind fun t360 => (if t360 < 0 then (some false) else (if t360 = t358 then ((laws_toDisk.f kj78 l0_0).bind fun t361 => ((laws_toActS.f kj78 l1).bind fun t364 => ((impl_DoActs.f kj78 t361 t364).bind fun bt367 => ((laws_eqDisk.f kj78 bt367.1 t327).bind fun t372 => (if t372 = true then (laws_FnExactDoActs.j2 kj78 t358 (bt367.2 != t330) t359) else (laws_FnExactDoActs.j2 kj78 t358 true t359)))))) else (some false)))) = some r := H
       have A113 := Aside0.mk A1130
       clear A1130
       replace H := Option.bind_eq_some_iff.mp H
       obtain ⟨t360, A1140, H⟩ := H
       have A114 := Aside0.mk A1140
       clear A1140
       by_cases c115 : t360 < 0
       ·rw [if_pos c115] at H
        have c115b0 := decide_eq_true c115
        clear c115
        obtain rfl := Option.some.inj H
        exact absurd HR_.out (by decide)
       rw [if_neg c115] at H
       have c115b0 := decide_eq_false c115
       clear c115
       by_cases c123 : t360 = t358
       ·rw [if_pos c123] at H
        have c123b0 : (t360 == t358) = true := beq_iff_eq.mpr c123
        have c123b1 : (t360 != t358) = false := bne_eq_false_iff_eq.mpr c123
        clear c123
        replace H := Option.bind_eq_some_iff.mp H
        obtain ⟨t361, A1240, H⟩ := H
        have A124 := Aside0.mk A1240
        clear A1240
        replace H := Option.bind_eq_some_iff.mp H
        obtain ⟨t364, A1250, H⟩ := H
        have A125 := Aside0.mk A1250
        clear A1250
        replace H := Option.bind_eq_some_iff.mp H
        obtain ⟨⟨t367, t370⟩, A1260, H⟩ := H
        replace H : ((laws_eqDisk.f kj78 t367 t327).bind fun t372 => (if t372 = true then (laws_FnExactDoActs.j2 kj78 t358 (t370 != t330) t359) else (laws_FnExactDoActs.j2 kj78 t358 true t359))) = some r := H
        have A126 := Aside0.mk A1260
        clear A1260
        have HC127 := Aside0.mk H
        clear H
        have hnb128 := NB343_318.out
        have hnc128 := NB318_343.out
        have hnb129 := NB343_331.out
        have hnc129 := NB331_343.out
        have hnb130 := NB343_335.out
        have hnc130 := NB335_343.out
        obtain ⟨m131_0, n131_0⟩ := zc1 BK343
        go_upto_region 32 with (first | ((with_reducible refine gate_callee (f := 31) rfl ?_); refine zG (some 85) Try.func31 #[.agg #[.slice Ao47 t339.length co47], .int .i64 1] ?_; (with_reducible refine (laws_markDisk.calls kj78 (fun k_ => some k_ = (.slice Ao47 t339.length co47 : Value).ownBlock) (.slice Ao47 t339.length co47) t339 1 t358 t359 w _ ?side1 ?side2 A113.out).mono ?_); (case side1 => exact zw HB); (case side2 => exact Kd.R_tight rfl HO_344000.out); rintro e w132 ⟨rfl, hy0, hb, hkp⟩; refine ⟨_, rfl, ?_⟩; replace HO_332000 := Aside0.mk (Kd.R_mono (ok' := fun k_ => some k_ ≠ (.slice Ao38 t354.length co38 : Value).ownBlock ∧ some k_ ≠ (.slice Ao47 t339.length co47 : Value).ownBlock) (Kd.R_keptB (HO_332000.out) hkp (fun k_ hk_ hs_ => (hk_.2) hs_)) (fun k_ hk_ => ⟨hk_.1.1, hk_.1.2⟩)); replace HO_336000 := Aside0.mk (Kd.R_mono (ok' := fun k_ => some k_ ≠ (.slice Ao32 t327.length co32 : Value).ownBlock ∧ some k_ ≠ (.slice Ao47 t339.length co47 : Value).ownBlock) (Kd.R_keptB (HO_336000.out) hkp (fun k_ hk_ hs_ => (hk_.2) hs_)) (fun k_ hk_ => ⟨hk_.1.1, hk_.1.2⟩)); replace BK318 := Aside0.mk (blk_kept (zk BK318) hkp (fun hs_ => (fun e_ => (Kd.R_ne HO_344000.out BK318.out (by decide)) e_) hs_)); replace BK331 := Aside0.mk (blk_kept (zk BK331) hkp (fun hs_ => (fun e_ => (Kd.R_ne HO_344000.out BK331.out (by decide)) e_) hs_)); replace BK335 := Aside0.mk (blk_kept (zk BK335) hkp (fun hs_ => (fun e_ => (Kd.R_ne HO_344000.out BK335.out (by decide)) e_) hs_)); replace BK343 := Aside0.mk (blk_kept (zk BK343) hkp (fun hs_ => (fun e_ => (Kd.R_ne HO_344000.out BK343.out (by decide)) e_) hs_)); replace HO_344000 := Aside0.mk (Kd.R_reok rfl hy0 (fun k_ e_ => HO_344000.out.1 k_ e_)); replace HB := Aside0.mk (hb); clear hb; (try clear hkp); (try clear hy0); obtain ⟨m133_0, n133_0⟩ := zc1 BK343) | ((with_reducible refine gate_callee (f := 33) rfl ?_); refine goesL_ (some 88) rfl rfl Try.func33 (by kernel_rfl) rfl #[.agg #[.slice Ao47 t359.length co47], .int .i64 1] rfl (by (try simp only [List.map_toArray, List.map_cons, List.map_nil]); first | done | (rw [show t359.length = t339.length from (Kd.R_reads' HO_344000.out).1.symm] <;> rfl) | rfl | (simp only [List.length_drop, List.length_take]; rfl)) ?_; (with_reducible refine (laws_heldDisk.calls kj78 _ _ t359 1 t360 _ ?side1 ?side2 A114.out).mono ?_); (case side1 => exact zI (Kd.R_reads' HO_344000.out).2.2); (case side2 => rw [show t359.length = t339.length from (Kd.R_reads' HO_344000.out).1.symm]; exact (Kd.R_reads' HO_344000.out).2.1); rintro e w134 ⟨rfl, hb⟩; refine ⟨_, rfl, ?_⟩; replace HO_332000 := zy HO_332000 hb; replace HO_336000 := zy HO_336000 hb; replace HO_344000 := zy HO_344000 hb; replace BK318 := zb BK318 hb; replace BK331 := zb BK331 hb; replace BK335 := zb BK335 hb; replace BK343 := zb BK343 hb; replace HB := zs HB hb; clear hb; have hnb135 := NB318_331.out; have hnc135 := NB331_318.out; have hnb136 := NB318_335.out; have hnc136 := NB335_318.out; obtain ⟨m137_0, n137_0⟩ := zc1 BK318) | ((with_reducible refine gate_callee (f := 14) rfl ?_); refine zG (some 96) Try.func14 #[.agg #[.slice A0_0 l0_0.length c0_0]] ?_; (with_reducible refine (laws_toDisk.calls kj78 _ _ l0_0 t361 _ ?side1 ?side2 A124.out).mono ?_); (case side1 => exact zI (Kd.C_below HR0_0.out HB.out)); (case side2 => exact HC0_0.out); rintro e w138 ⟨v362, rfl, ho0, hb⟩; refine ⟨_, rfl, ?_⟩; have HO363 := Aside0.mk (Kd.R_lower (Kd.R_new' (Kd.R_new' (Kd.R_new' ho0 (Kd.R_lt (zo HO_332000.out))) (Kd.R_lt (zo HO_336000.out))) (Kd.R_lt (zo HO_344000.out))) (below_size (zw HB))); replace HO_332000 := Aside0.mk (Kd.R_elder' (zo HO_332000.out) (Kd.R_base ho0) hb); replace HO_336000 := Aside0.mk (Kd.R_elder' (zo HO_336000.out) (Kd.R_base ho0) hb); replace HO_344000 := Aside0.mk (Kd.R_elder' (zo HO_344000.out) (Kd.R_base ho0) hb); replace BK318 := zb BK318 hb; replace BK331 := zb BK331 hb; replace BK335 := zb BK335 hb; replace BK343 := zb BK343 hb; replace HB := zs HB hb; clear ho0 hb) | ((with_reducible refine gate_callee (f := 40) rfl ?_); refine zG (some 98) Try.func40 #[.slice A1 l1.length c1] ?_; (with_reducible refine (laws_toActS.calls kj78 _ _ l1 t364 _ ?side1 ?side2 A125.out).mono ?_); (case side1 => exact zI (Kd.C_below HR1.out HB.out)); (case side2 => exact HC1.out); rintro e w139 ⟨v365, rfl, ho0, hb⟩; refine ⟨_, rfl, ?_⟩; replace HO_332000 := zy HO_332000 hb; replace HO_336000 := zy HO_336000 hb; replace HO_344000 := zy HO_344000 hb; replace HO363 := zy HO363 hb; have HO366 := Aside0.mk (Kd.R_lower ho0 (below_size (zw HB))); replace BK318 := zb BK318 hb; replace BK331 := zb BK331 hb; replace BK335 := zb BK335 hb; replace BK343 := zb BK343 hb; replace HB := zs HB hb; clear ho0 hb; obtain ⟨Ao140, co140, eo140⟩ := Kd.R_slice HO363.out; subst eo140; obtain ⟨Ao141, co141, eo141⟩ := Kd.R_slice HO366.out; subst eo141) | ((with_reducible refine gate_callee (f := 41) rfl ?_); refine zG (some 99) Try.func41 #[.agg #[.slice Ao140 t361.length co140], .slice Ao141 t364.length co141] ?_; (with_reducible refine (impl_DoActs.calls kj78 _ _ t361 _ _ t364 t367 t370 _ ?side1 ?side2 ?side3 ?side4 A126.out).mono ?_); (case side1 => exact zI (Kd.R_reads' HO363.out).2.2); (case side2 => exact (Kd.R_reads' HO363.out).2.1); (case side3 => exact zI (Kd.R_reads' HO366.out).2.2); (case side4 => exact (Kd.R_reads' HO366.out).2.1); rintro e w142 ⟨v368, rfl, ho0, hb⟩; refine ⟨_, rfl, ?_⟩; replace HO366 := zy HO366 hb; have HO369 := Aside0.mk (Kd.R_lower (Kd.R_new' (Kd.R_new' (Kd.R_new' (Kd.R_new' ho0 (Kd.R_lt (zo HO_332000.out))) (Kd.R_lt (zo HO_336000.out))) (Kd.R_lt (zo HO_344000.out))) (Kd.R_lt (zo HO363.out))) (below_size (zw HB))); replace HO_332000 := Aside0.mk (Kd.R_elder' (zo HO_332000.out) (Kd.R_base ho0) hb); replace HO_336000 := Aside0.mk (Kd.R_elder' (zo HO_336000.out) (Kd.R_base ho0) hb); replace HO_344000 := Aside0.mk (Kd.R_elder' (zo HO_344000.out) (Kd.R_base ho0) hb); replace HO363 := Aside0.mk (Kd.R_elder' (zo HO363.out) (Kd.R_base ho0) hb); replace BK318 := zb BK318 hb; replace BK331 := zb BK331 hb; replace BK335 := zb BK335 hb; replace BK343 := zb BK343 hb; replace HB := zs HB hb; clear ho0 hb) | ((with_reducible refine gate_dst (N := 15) rfl ?_); refine zx (N := 15) (cs := #[.slice none 0 0]) (t := 29) ?_; intro gb371 hg w143 hbox hb; replace HO_332000 := zy HO_332000 hb; replace HO_336000 := zy HO_336000 hb; replace HO_344000 := zy HO_344000 hb; replace HO363 := zy HO363 hb; replace HO366 := zy HO366 hb; replace HO369 := zy HO369 hb; have BK371 := Aside0.mk (hbox); have GW371 := zg HB hg; have GE371 := zg HB hg; replace HB := zs HB hb; have NB318_371 := zl BK318 hg; have NB371_318 := zr BK318 hg; replace BK318 := zb BK318 hb; have NB331_371 := zl BK331 hg; have NB371_331 := zr BK331 hg; replace BK331 := zb BK331 hb; have NB335_371 := zl BK335 hg; have NB371_335 := zr BK335 hg; replace BK335 := zb BK335 hb; have NB343_371 := zl BK343 hg; have NB371_343 := zr BK343 hg; replace BK343 := zb BK343 hb; clear hb hbox hg; obtain ⟨Ao144, co144, eo144⟩ := Kd.R_slice HO369.out; subst eo144; have hnb145 := NB371_318.out; have hnc145 := NB318_371.out; have hnb146 := NB371_331.out; have hnc146 := NB331_371.out; have hnb147 := NB371_335.out; have hnc147 := NB335_371.out; have hnb148 := NB371_343.out; have hnc148 := NB343_371.out; obtain ⟨m149_0, n149_0⟩ := zc1 BK371))
        (try simp only [Act.put, zA, zB, zC])
        go_cut [110] (fun v110 wc => ∃ (kq : Nat) (x110_126 : Bool), v110 = .bool x110_126 ∧ Aside0 (laws_FnExactDoActs.j2 kq t358 x110_126 t359 = some r) ∧ Aside0 (kq ≤ kj78) ∧ Aside0 (Kd.R k45 45 wc w.heap.size (fun k_ => some k_ ≠ ((.slice Ao38 t354.length co38) : Value).ownBlock ∧ some k_ ≠ ((.slice Ao47 t339.length co47) : Value).ownBlock ∧ some k_ ≠ ((.slice Ao144 t367.length co144) : Value).ownBlock) (.slice Ao32 t327.length co32) t327) ∧ Aside0 (Kd.R k45 45 wc w.heap.size (fun k_ => some k_ ≠ ((.slice Ao32 t327.length co32) : Value).ownBlock ∧ some k_ ≠ ((.slice Ao47 t339.length co47) : Value).ownBlock ∧ some k_ ≠ ((.slice Ao144 t367.length co144) : Value).ownBlock) (.slice Ao38 t354.length co38) t354) ∧ Aside0 (Kd.R k45 45 wc w.heap.size (fun k_ => some k_ ≠ ((.slice Ao32 t327.length co32) : Value).ownBlock ∧ some k_ ≠ ((.slice Ao38 t354.length co38) : Value).ownBlock ∧ some k_ ≠ ((.slice Ao144 t367.length co144) : Value).ownBlock) (.slice Ao47 t339.length co47) t359) ∧ Aside0 (Kd.R k45 45 wc w.heap.size (fun k_ => some k_ ≠ ((.slice Ao32 t327.length co32) : Value).ownBlock ∧ some k_ ≠ ((.slice Ao38 t354.length co38) : Value).ownBlock ∧ some k_ ≠ ((.slice Ao47 t339.length co47) : Value).ownBlock) (.slice Ao144 t367.length co144) t367) ∧ Aside0 (wc.heap[gb318]? = some (.cells #[(.slice A0_0 l0_0.length c0_0)] 24 (0, 0))) ∧ Aside0 (wc.heap[gb331]? = some (.cells #[(.slice Ao32 t327.length co32)] 29 (0, 0))) ∧ Aside0 (wc.heap[gb335]? = some (.cells #[(.slice Ao38 t354.length co38)] 29 (0, 0))) ∧ Aside0 (wc.heap[gb343]? = some (.cells #[(.slice Ao47 t339.length co47)] 29 (0, 0))) ∧ Aside0 (wc.heap[gb371]? = some (.cells #[(.slice Ao144 t367.length co144)] 29 (0, 0))) ∧ Aside0 (Below w.heap.size w wc))
        case first =>
         have H := HC127.out
         clear HC127
         replace H := Option.bind_eq_some_iff.mp H
         obtain ⟨t372, A1500, H⟩ := H
         have A150 := Aside0.mk A1500
         clear A1500
         by_cases c151 : t372 = true
         ·subst c151
          rw [if_pos rfl] at H
          have H' := Aside0.mk H
          clear H
          have hnb152 := NB371_318.out
          have hnc152 := NB318_371.out
          have hnb153 := NB371_331.out
          have hnc153 := NB331_371.out
          have hnb154 := NB371_335.out
          have hnc154 := NB335_371.out
          have hnb155 := NB371_343.out
          have hnc155 := NB343_371.out
          obtain ⟨m156_0, n156_0⟩ := zc1 BK371
          have hnb157 := NB331_318.out
          have hnc157 := NB318_331.out
          have hnb158 := NB331_335.out
          have hnc158 := NB335_331.out
          have hnb159 := NB331_343.out
          have hnc159 := NB343_331.out
          obtain ⟨m160_0, n160_0⟩ := zc1 BK331
          go_wp2_with (first | ((with_reducible refine gate_callee (f := 16) rfl ?_); refine zG (some 104) Try.func16 #[.agg #[.slice Ao144 t367.length co144], .agg #[.slice Ao32 t327.length co32]] ?_; (with_reducible refine (laws_eqDisk.calls kj78 _ _ t367 _ _ t327 true _ ?side1 ?side2 ?side3 ?side4 A150.out).mono ?_); (case side1 => refine (Kd.R_reads' (e := 45) (base := w.heap.size) (ok := fun k_ => ((((True ∧ some k_ ≠ (.slice Ao32 t327.length co32 : Value).ownBlock) ∧ some k_ ≠ (.slice Ao38 t354.length co38 : Value).ownBlock) ∧ some k_ ≠ (.slice Ao47 t339.length co47 : Value).ownBlock) ∧ some k_ ≠ (.slice Ao140 t361.length co140 : Value).ownBlock)) (n := t367.length) (c := co144) ?_).2.2; exact (zo ((Kd.R_mono (Kd.R_far (p := ⟨gb371, 0, none⟩) (Kd.R_types HO369.out BK371.out (by decide)) (fun _ hk => hk.2) (.slice Ao144 t367.length co144)) (fun _ h_ => h_.1))))); (case side2 => exact (Kd.R_reads' HO369.out).2.1); (case side3 => refine (Kd.R_reads' (e := 45) (base := w.heap.size) (ok := fun k_ => (((some k_ ≠ (.slice Ao38 t354.length co38 : Value).ownBlock ∧ some k_ ≠ (.slice Ao47 t339.length co47 : Value).ownBlock) ∧ some k_ ≠ (.slice Ao140 t361.length co140 : Value).ownBlock) ∧ some k_ ≠ (.slice Ao144 t367.length co144 : Value).ownBlock)) (n := t327.length) (c := co32) ?_).2.2; exact (zo ((Kd.R_mono (Kd.R_far (p := ⟨gb371, 0, none⟩) (Kd.R_types HO_332000.out BK371.out (by decide)) (fun _ hk => hk.2) (.slice Ao144 t367.length co144)) (fun _ h_ => h_.1))))); (case side4 => exact (Kd.R_reads' HO_332000.out).2.1); rintro e w161 ⟨rfl, hb⟩; refine ⟨_, rfl, ?_⟩; replace HO_332000 := Aside0.mk (Kd.R_below (zo ((Kd.R_mono (Kd.R_far (p := ⟨gb371, 0, none⟩) (Kd.R_types HO_332000.out BK371.out (by decide)) (fun _ hk => hk.2) (.slice Ao144 t367.length co144)) (fun _ h_ => h_.1)))) hb); replace HO_336000 := Aside0.mk (Kd.R_below (zo ((Kd.R_mono (Kd.R_far (p := ⟨gb371, 0, none⟩) (Kd.R_types HO_336000.out BK371.out (by decide)) (fun _ hk => hk.2) (.slice Ao144 t367.length co144)) (fun _ h_ => h_.1)))) hb); replace HO_344000 := Aside0.mk (Kd.R_below (zo ((Kd.R_mono (Kd.R_far (p := ⟨gb371, 0, none⟩) (Kd.R_types HO_344000.out BK371.out (by decide)) (fun _ hk => hk.2) (.slice Ao144 t367.length co144)) (fun _ h_ => h_.1)))) hb); replace HO363 := Aside0.mk (Kd.R_below (zo ((Kd.R_mono (Kd.R_far (p := ⟨gb371, 0, none⟩) (Kd.R_types HO363.out BK371.out (by decide)) (fun _ hk => hk.2) (.slice Ao144 t367.length co144)) (fun _ h_ => h_.1)))) hb); replace HO366 := Aside0.mk (Kd.R_below (zo ((Kd.R_mono (Kd.R_far (p := ⟨gb371, 0, none⟩) (Kd.R_types HO366.out BK371.out (by decide)) (fun _ hk => hk.2) (.slice Ao144 t367.length co144)) (fun _ h_ => h_.1)))) hb); replace HO369 := Aside0.mk (Kd.R_below (zo ((Kd.R_mono (Kd.R_far (p := ⟨gb371, 0, none⟩) (Kd.R_types HO369.out BK371.out (by decide)) (fun _ hk => hk.2) (.slice Ao144 t367.length co144)) (fun _ h_ => h_.1)))) hb); replace BK318 := zbf BK318 hb; replace BK331 := zbf BK331 hb; replace BK335 := zbf BK335 hb; replace BK343 := zbf BK343 hb; replace BK371 := Aside0.mk (blk_below (g := gb371) (o := .cells #[.slice Ao144 t367.length co144] 29 (0, 0)) (by (with_reducible repeat (first | refine blk_drewN ?_ _ | refine blk_drew ?_ | refine blk_alloc ?_ _)); refine blk_put (cs := #[.slice none 0 0]) ?_ 0 _ rfl; (with_reducible repeat (first | refine blk_drewN ?_ _ | refine blk_drew ?_ | refine blk_alloc ?_ _)); exact BK371.out) hb); replace HB := zs HB hb; clear hb))
          go_meet
          case rel => exact ⟨_, ((t370 != t330)), zf, H', ⟨by have := HJ19.out; have := HJ78.out; first | omega | exact Nat.le_refl _⟩, ⟨by (try simp only [hl336000_78]); (with_reducible repeat (first | apply Kd.R_alloc | apply Kd.R_drewN | apply Kd.R_drew)); exact Kd.R_mono HO_332000.out (fun _ hk => ⟨hk.1.1.1, ⟨hk.1.1.2, hk.2⟩⟩)⟩, ⟨by (try simp only [hl336000_78]); (with_reducible repeat (first | apply Kd.R_alloc | apply Kd.R_drewN | apply Kd.R_drew)); exact Kd.R_mono HO_336000.out (fun _ hk => ⟨hk.1.1.1, ⟨hk.1.1.2, hk.2⟩⟩)⟩, ⟨by (try simp only [hl336000_78]); (with_reducible repeat (first | apply Kd.R_alloc | apply Kd.R_drewN | apply Kd.R_drew)); exact Kd.R_mono HO_344000.out (fun _ hk => ⟨hk.1.1.1, ⟨hk.1.1.2, hk.2⟩⟩)⟩, ⟨by (try simp only [hl336000_78]); (with_reducible repeat (first | apply Kd.R_alloc | apply Kd.R_drewN | apply Kd.R_drew)); exact Kd.R_mono HO369.out (fun _ hk => ⟨hk.1.1.1.2, ⟨hk.1.1.2, hk.1.2⟩⟩)⟩, ⟨by (try simp only [hl336000_78]); (with_reducible repeat (first | refine blk_drewN ?_ _ | refine blk_drew ?_ | refine blk_alloc ?_ _)); exact BK318.out⟩, ⟨by (try simp only [hl336000_78]); (with_reducible repeat (first | refine blk_drewN ?_ _ | refine blk_drew ?_ | refine blk_alloc ?_ _)); exact BK331.out⟩, ⟨by (try simp only [hl336000_78]); (with_reducible repeat (first | refine blk_drewN ?_ _ | refine blk_drew ?_ | refine blk_alloc ?_ _)); exact BK335.out⟩, ⟨by (try simp only [hl336000_78]); (with_reducible repeat (first | refine blk_drewN ?_ _ | refine blk_drew ?_ | refine blk_alloc ?_ _)); exact BK343.out⟩, ⟨by (try simp only [hl336000_78]); (with_reducible repeat (first | refine blk_drewN ?_ _ | refine blk_drew ?_ | refine blk_alloc ?_ _)); exact BK371.out⟩, ⟨zw HB⟩⟩
         replace c151 := Bool.eq_false_iff.mpr c151
         subst c151
         rw [if_neg (show ¬ (false = true) by decide)] at H
         exact absurd (H.trans (congrArg some HR_.out)) laws_FnExactDoActs.j2_t
        case rest =>
         clear HC127
         try clear c1
         try clear p2
         try clear c3
         try clear c4
         try clear c4b0
         try clear c5
         try clear c6
         try clear c7
         try clear c8
         try clear c9
         try clear c9b0
         try clear c10
         try clear c11
         try clear c12
         try clear c13
         try clear c14
         try clear c15
         try clear c16
         try clear c31
         try clear c33
         try clear c38
         try clear c39
         try clear c40
         try clear c41
         try clear c42
         try clear c43
         try clear c48
         try clear c49
         try clear c50
         try clear c53
         try clear c54
         try clear c55
         try clear c56
         try clear c58
         try clear c59
         try clear c62
         try clear c63
         try clear c64
         try clear c66
         try clear c67
         try clear c70
         try clear c73
         try clear c76
         try clear c87
         try clear c88
         try clear c89
         try clear c93
         try clear c93b0
         try clear c95
         try clear c96
         try clear c97
         try clear c98
         try clear c100
         try clear c101
         try clear c104
         try clear c105
         try clear c106
         try clear c108
         try clear c109
         try clear c112
         try clear c115
         try clear c115b0
         try clear c116
         try clear c117
         try clear c118
         try clear c123
         try clear c123b0
         try clear c123b1
         try clear c128
         try clear c129
         try clear c130
         try clear c135
         try clear c136
         try clear c145
         try clear c146
         try clear c147
         try clear c148
         try clear c151
         try clear c152
         try clear c153
         try clear c154
         try clear c155
         try clear c157
         try clear c158
         try clear c159
         try clear c162
         try clear c163
         try clear c164
         try clear c165
         try clear c167
         try clear c168
         try clear c169
         try clear m102_0
         try clear m107_0
         try clear m110_0
         try clear m119_0
         try clear m11_0
         try clear m121_0
         try clear m131_0
         try clear m133_0
         try clear m137_0
         try clear m149_0
         try clear m156_0
         try clear m160_0
         try clear m166_0
         try clear m170_0
         try clear m22_0
         try clear m25_0
         try clear m34_0
         try clear m35_0
         try clear m41_0
         try clear m43_0
         try clear m51_0
         try clear m57_0
         try clear m60_0
         try clear m65_0
         try clear m68_0
         try clear m6_0
         try clear m90_0
         try clear m99_0
         try clear n102_0
         try clear n107_0
         try clear n110_0
         try clear n119_0
         try clear n11_0
         try clear n121_0
         try clear n131_0
         try clear n133_0
         try clear n137_0
         try clear n149_0
         try clear n156_0
         try clear n160_0
         try clear n166_0
         try clear n170_0
         try clear n22_0
         try clear n25_0
         try clear n34_0
         try clear n35_0
         try clear n41_0
         try clear n43_0
         try clear n51_0
         try clear n57_0
         try clear n60_0
         try clear n65_0
         try clear n68_0
         try clear n6_0
         try clear n90_0
         try clear n99_0
         try clear p2
         obtain ⟨kq, x110_126, rfl, HA, HJ126, HO_332000, HO_336000, HO_344000, HO_372000, BK318, BK331, BK335, BK343, BK371, HB⟩ := hcut
         have hl344000_126 := (Kd.R_reads' HO_344000.out).1
         rw [hl344000_126] at HO_344000
         (try simp only [hl344000_126])
         (try simp only [hl344000_126] at BK318)
         (try simp only [hl344000_126] at BK331)
         (try simp only [hl344000_126] at BK335)
         (try simp only [hl344000_126] at BK343)
         (try simp only [hl344000_126] at BK371)
         (try simp only [hl344000_126] at HO_332000)
         (try simp only [hl344000_126] at HO_336000)
         (try simp only [hl344000_126] at HO_372000)
         cases kq with
         | zero => exact absurd HA.out (by simp [laws_FnExactDoActs.j2])
         | succ kj126 =>
          have H := HA.out
          clear HA
          simp only [laws_FnExactDoActs.j2] at H
          by_cases c172 : x110_126 = true
          ·subst c172
           rw [if_pos rfl] at H
           obtain rfl := Option.some.inj H
           exact absurd HR_.out (by decide)
          replace c172 := Bool.eq_false_iff.mpr c172
          subst c172
          rw [if_neg (show ¬ (false = true) by decide)] at H
          replace H := Option.bind_eq_some_iff.mp H
          obtain ⟨t373, A1730, H⟩ := H
          have A173 := Aside0.mk A1730
          clear A1730
          by_cases c174 : t373 < 0
          ·rw [if_pos c174] at H
           have c174b0 := decide_eq_true c174
           clear c174
           obtain rfl := Option.some.inj H
           exact absurd HR_.out (by decide)
          rw [if_neg c174] at H
          have c174b0 := decide_eq_false c174
          clear c174
          by_cases c181 : t373 = t358
          ·rw [if_pos c181] at H
           have c181b0 : (t373 == t358) = true := beq_iff_eq.mpr c181
           have c181b1 : (t373 != t358) = false := bne_eq_false_iff_eq.mpr c181
           clear c181
           obtain rfl := Option.some.inj H
           have hnb182 := NB343_318.out
           have hnc182 := NB318_343.out
           have hnb183 := NB343_331.out
           have hnc183 := NB331_343.out
           have hnb184 := NB343_335.out
           have hnc184 := NB335_343.out
           have hnb185 := NB343_371.out
           have hnc185 := NB371_343.out
           obtain ⟨m186_0, n186_0⟩ := zc1 BK343
           go_wp2_with (first | ((with_reducible refine gate_callee (f := 33) rfl ?_); refine zG (some 113) Try.func33 #[.agg #[.slice Ao47 t359.length co47], .int .i64 1] ?_; (with_reducible refine (laws_heldDisk.calls kj126 _ _ t359 1 t373 _ ?side1 ?side2 A173.out).mono ?_); (case side1 => exact zI (Kd.R_reads' HO_344000.out).2.2); (case side2 => exact (Kd.R_reads' HO_344000.out).2.1); rintro e w187 ⟨rfl, hb⟩; refine ⟨_, rfl, ?_⟩; replace HO_332000 := zy HO_332000 hb; replace HO_336000 := zy HO_336000 hb; replace HO_344000 := zy HO_344000 hb; replace HO_372000 := zy HO_372000 hb; replace BK318 := zb BK318 hb; replace BK331 := zb BK331 hb; replace BK335 := zb BK335 hb; replace BK343 := zb BK343 hb; replace BK371 := zb BK371 hb; replace HB := zs HB hb; clear hb))
           go_ret
           exact ⟨ze, zw HB⟩
          rw [if_neg c181] at H
          have c181b0 : (t373 == t358) = false := beq_eq_false_iff_ne.mpr c181
          have c181b1 : (t373 != t358) = true := bne_iff_ne.mpr c181
          obtain rfl := Option.some.inj H
          exact absurd HR_.out (by decide)
       rw [if_neg c123] at H
       have c123b0 : (t360 == t358) = false := beq_eq_false_iff_ne.mpr c123
       have c123b1 : (t360 != t358) = true := bne_iff_ne.mpr c123
       obtain rfl := Option.some.inj H
       exact absurd HR_.out (by decide)
    replace c76 := Bool.eq_false_iff.mpr c76
    subst c76
    rw [if_neg (show ¬ (false = true) by decide)] at H
    obtain rfl := Option.some.inj H
    exact absurd HR_.out (by decide)
   replace c73 := Bool.eq_false_iff.mpr c73
   subst c73
   rw [if_neg (show ¬ (false = true) by decide)] at H
   obtain rfl := Option.some.inj H
   exact absurd HR_.out (by decide)

end Go.Proofs.Ytdiecogmaiglaaa.PFnExactDoActs
