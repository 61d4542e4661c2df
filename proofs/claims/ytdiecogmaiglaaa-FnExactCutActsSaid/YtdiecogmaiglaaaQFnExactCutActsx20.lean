import Derived.Test.YtdiecogmaiglaaaQFnExactCutActsx0
import Derived.Test.YtdiecogmaiglaaaQFnExactCutActsx1
import Derived.Test.YtdiecogmaiglaaaQFnExactCutActsx2
import Derived.Test.YtdiecogmaiglaaaQFnExactCutActsx3
import Derived.Test.YtdiecogmaiglaaaQFnExactCutActsx4
import Derived.Test.YtdiecogmaiglaaaQFnExactCutActsx5
import Derived.Test.YtdiecogmaiglaaaQFnExactCutActsx11
import Derived.Test.YtdiecogmaiglaaaQFnExactCutActsx19
namespace Go.Proofs.Ytdiecogmaiglaaa.PFnExactCutActs
open Go.RowKit Go.Proofs.YtdiecogmaiglaaaW.PrintWords Go.Proofs.YtdiecogmaiglaaaW.PrintLast Go.Proofs.YtdiecogmaiglaaaW.PrintMore
attribute [local go_sem] max2_int min2_int max_two min_two max_three min_three max_four min_four   -- for this text's walks alone
set_option linter.unusedVariables false
set_option linter.unusedSimpArgs false

/-! ### laws_FnExactCutActs: function 11 -/
mutual
def laws_FnExactCutActs.j0 : Nat → List (S52) → Int → List Int → Bool → List (S55) → List Int → Bool → Bool → List (S94) → List (S45) → List (S45) → List (S45) → Option (Bool)
 | 0, _, _, _, _, _, _, _, _, _, _, _, _ => none
 | k + 1, x1, x2, x3, x11, x13, x14, x16, x68, x390000, x406000, x410000, x421000 => if x68 = true then (some false) else ((laws_toDisk.f k x390000).bind fun t422 => ((laws_eqDisk.f k x410000 t422).bind fun t425 => (if t425 = true then ((laws_toActS.f k x1).bind fun t426 => ((laws_eqActS.f k x13 t426).bind fun t429 => (if t429 = true then ((laws_toIntS.f k x3).bind fun t430 => ((laws_eqIntS.f k x14 t430).bind fun t433 => (if t433 = true then ((laws_markDisk.f k x410000 1).bind fun bt434 => ((laws_markActS.f k x13 bt434.1).bind fun bt436 => ((laws_markIntS.f k x14 bt436.1).bind fun bt438 => (if bt438.1 < 0 then (laws_FnExactCutActs.j1 k x1 x2 x3 x11 true x390000 x406000 x421000) else ((laws_eqDisk.f k x421000 x406000).bind fun t440 => (if t440 = true then (laws_FnExactCutActs.j1 k x1 x2 x3 x11 (x16 != x11) x390000 x406000 x421000) else (laws_FnExactCutActs.j1 k x1 x2 x3 x11 true x390000 x406000 x421000))))))) else (some false)))) else (some false)))) else (some false))))
def laws_FnExactCutActs.j1 : Nat → List (S52) → Int → List Int → Bool → Bool → List (S94) → List (S45) → List (S45) → Option (Bool)
 | 0, _, _, _, _, _, _, _, _ => none
 | k + 1, x1, x2, x3, x11, x105, x390000, x406000, x421000 => if x105 = true then (some false) else ((laws_markDisk.f k x421000 1).bind fun bt441 => ((laws_heldDisk.f k bt441.2 1).bind fun t443 => (if t443 < 0 then (some false) else (if t443 = bt441.1 then ((laws_toDisk.f k x390000).bind fun t444 => ((laws_toActS.f k x1).bind fun t447 => ((laws_toIntS.f k x3).bind fun t450 => ((impl_CutActs.f k t444 t447 x2 t450).bind fun bt453 => ((laws_eqDisk.f k bt453.1 x406000).bind fun t458 => (if t458 = true then (laws_FnExactCutActs.j2 k bt441.1 (bt453.2 != x11) bt441.2) else (laws_FnExactCutActs.j2 k bt441.1 true bt441.2))))))) else (some false)))))
def laws_FnExactCutActs.j2 : Nat → Int → Bool → List (S45) → Option (Bool)
 | 0, _, _, _ => none
 | k + 1, x18, x136, x421000 => if x136 = true then (some false) else ((laws_heldDisk.f k x421000 1).bind fun t459 => (if t459 < 0 then (some false) else (if t459 = x18 then (some true) else (some false))))
end
def laws_FnExactCutActs.f (k : Nat) (l0_0 : List (S94)) (l1 : List (S52)) (a2 : Int) (l3 : List Int) : Option (Bool) := if (l3.length : Int) > 1048576 then (some true) else ((laws_szDisk.f k l0_0 1048576).bind fun t390 => (if t390 < 0 then (some true) else ((laws_szActS.f k l1 t390).bind fun t391 => (if t391 < 0 then (some true) else ((laws_toDisk.f k l0_0).bind fun t392 => ((laws_toActS.f k l1).bind fun t395 => ((laws_toIntS.f k l3).bind fun t398 => ((spec_CutActs.f k t392 t395 a2 t398).bind fun bt401 => ((laws_toDisk.f k l0_0).bind fun t406 => ((laws_toActS.f k l1).bind fun t410 => ((laws_toIntS.f k l3).bind fun t413 => ((impl_CutActs.f k t406 t410 a2 t413).bind fun bt416 => ((laws_eqDisk.f k bt416.1 bt401.1).bind fun t421 => (if t421 = true then (laws_FnExactCutActs.j0 k l1 a2 l3 bt401.2 t410 t413 bt416.2 (bt416.2 != bt401.2) l0_0 bt401.1 t406 bt416.1) else (laws_FnExactCutActs.j0 k l1 a2 l3 bt401.2 t410 t413 bt416.2 true l0_0 bt401.1 t406 bt416.1)))))))))))))))
theorem laws_FnExactCutActs.mono_l : ∀ k, (∀ y0 y1 y2 y3 y4 y5 y6 y7 y8 y9 y10 y11, LeO (laws_FnExactCutActs.j0 k y0 y1 y2 y3 y4 y5 y6 y7 y8 y9 y10 y11) (laws_FnExactCutActs.j0 (k + 1) y0 y1 y2 y3 y4 y5 y6 y7 y8 y9 y10 y11)) ∧ (∀ y0 y1 y2 y3 y4 y5 y6 y7, LeO (laws_FnExactCutActs.j1 k y0 y1 y2 y3 y4 y5 y6 y7) (laws_FnExactCutActs.j1 (k + 1) y0 y1 y2 y3 y4 y5 y6 y7)) ∧ (∀ y0 y1 y2, LeO (laws_FnExactCutActs.j2 k y0 y1 y2) (laws_FnExactCutActs.j2 (k + 1) y0 y1 y2))
 | 0 => ⟨fun _ _ _ _ _ _ _ _ _ _ _ _ r h => by simp [laws_FnExactCutActs.j0] at h, fun _ _ _ _ _ _ _ _ r h => by simp [laws_FnExactCutActs.j1] at h, fun _ _ _ r h => by simp [laws_FnExactCutActs.j2] at h⟩
 | k + 1 => by
  obtain ⟨ih0, ih1, ih2⟩ := laws_FnExactCutActs.mono_l k
  refine ⟨?_, ?_, ?_⟩
  ·intro y0 y1 y2 y3 y4 y5 y6 y7 y8 y9 y10 y11
   unfold laws_FnExactCutActs.j0
   repeat' first
   | (with_reducible exact ih0 _ _ _ _ _ _ _ _ _ _ _ _)
   | (with_reducible exact ih1 _ _ _ _ _ _ _ _)
   | (with_reducible exact ih2 _ _ _)
   | (with_reducible exact impl_CutActs.mono _ _ _ _ _)
   | (with_reducible exact laws_eqActS.mono _ _ _)
   | (with_reducible exact laws_eqDisk.mono _ _ _)
   | (with_reducible exact laws_eqIntS.mono _ _ _)
   | (with_reducible exact laws_heldDisk.mono _ _ _)
   | (with_reducible exact laws_markActS.mono _ _ _)
   | (with_reducible exact laws_markDisk.mono _ _ _)
   | (with_reducible exact laws_markIntS.mono _ _ _)
   | (with_reducible exact laws_szActS.mono _ _ _)
   | (with_reducible exact laws_szDisk.mono _ _ _)
   | (with_reducible exact laws_toActS.mono _ _)
   | (with_reducible exact laws_toDisk.mono _ _)
   | (with_reducible exact laws_toIntS.mono _ _)
   | (with_reducible exact spec_CutActs.mono _ _ _ _ _)
   | (with_reducible exact LeO.refl _)
   | (with_reducible exact LeO.none _)
   | (with_reducible refine LeO.ite ?_ ?_)
   | (with_reducible refine LeO.bind ?_ (fun _ => ?_))
   | exact ih0 _ _ _ _ _ _ _ _ _ _ _ _
   | exact ih1 _ _ _ _ _ _ _ _
   | exact ih2 _ _ _
   | exact impl_CutActs.mono _ _ _ _ _
   | exact laws_eqActS.mono _ _ _
   | exact laws_eqDisk.mono _ _ _
   | exact laws_eqIntS.mono _ _ _
   | exact laws_heldDisk.mono _ _ _
   | exact laws_markActS.mono _ _ _
   | exact laws_markDisk.mono _ _ _
   | exact laws_markIntS.mono _ _ _
   | exact laws_szActS.mono _ _ _
   | exact laws_szDisk.mono _ _ _
   | exact laws_toActS.mono _ _
   | exact laws_toDisk.mono _ _
   | exact laws_toIntS.mono _ _
   | exact spec_CutActs.mono _ _ _ _ _
   | exact LeO.none _
   | refine LeO.ite ?_ ?_
   | refine LeO.bind ?_ (fun _ => ?_)
  ·intro y0 y1 y2 y3 y4 y5 y6 y7
   unfold laws_FnExactCutActs.j1
   repeat' first
   | (with_reducible exact ih0 _ _ _ _ _ _ _ _ _ _ _ _)
   | (with_reducible exact ih1 _ _ _ _ _ _ _ _)
   | (with_reducible exact ih2 _ _ _)
   | (with_reducible exact impl_CutActs.mono _ _ _ _ _)
   | (with_reducible exact laws_eqActS.mono _ _ _)
   | (with_reducible exact laws_eqDisk.mono _ _ _)
   | (with_reducible exact laws_eqIntS.mono _ _ _)
   | (with_reducible exact laws_heldDisk.mono _ _ _)
   | (with_reducible exact laws_markActS.mono _ _ _)
   | (with_reducible exact laws_markDisk.mono _ _ _)
   | (with_reducible exact laws_markIntS.mono _ _ _)
   | (with_reducible exact laws_szActS.mono _ _ _)
   | (with_reducible exact laws_szDisk.mono _ _ _)
   | (with_reducible exact laws_toActS.mono _ _)
   | (with_reducible exact laws_toDisk.mono _ _)
   | (with_reducible exact laws_toIntS.mono _ _)
   | (with_reducible exact spec_CutActs.mono _ _ _ _ _)
   | (with_reducible exact LeO.refl _)
   | (with_reducible exact LeO.none _)
   | (with_reducible refine LeO.ite ?_ ?_)
   | (with_reducible refine LeO.bind ?_ (fun _ => ?_))
   | exact ih0 _ _ _ _ _ _ _ _ _ _ _ _
   | exact ih1 _ _ _ _ _ _ _ _
   | exact ih2 _ _ _
   | exact impl_CutActs.mono _ _ _ _ _
   | exact laws_eqActS.mono _ _ _
   | exact laws_eqDisk.mono _ _ _
   | exact laws_eqIntS.mono _ _ _
   | exact laws_heldDisk.mono _ _ _
   | exact laws_markActS.mono _ _ _
   | exact laws_markDisk.mono _ _ _
   | exact laws_markIntS.mono _ _ _
   | exact laws_szActS.mono _ _ _
   | exact laws_szDisk.mono _ _ _
   | exact laws_toActS.mono _ _
   | exact laws_toDisk.mono _ _
   | exact laws_toIntS.mono _ _
   | exact spec_CutActs.mono _ _ _ _ _
   | exact LeO.none _
   | refine LeO.ite ?_ ?_
   | refine LeO.bind ?_ (fun _ => ?_)
  intro y0 y1 y2
  unfold laws_FnExactCutActs.j2
  repeat' first
  | (with_reducible exact ih0 _ _ _ _ _ _ _ _ _ _ _ _)
  | (with_reducible exact ih1 _ _ _ _ _ _ _ _)
  | (with_reducible exact ih2 _ _ _)
  | (with_reducible exact impl_CutActs.mono _ _ _ _ _)
  | (with_reducible exact laws_eqActS.mono _ _ _)
  | (with_reducible exact laws_eqDisk.mono _ _ _)
  | (with_reducible exact laws_eqIntS.mono _ _ _)
  | (with_reducible exact laws_heldDisk.mono _ _ _)
  | (with_reducible exact laws_markActS.mono _ _ _)
  | (with_reducible exact laws_markDisk.mono _ _ _)
  | (with_reducible exact laws_markIntS.mono _ _ _)
  | (with_reducible exact laws_szActS.mono _ _ _)
  | (with_reducible exact laws_szDisk.mono _ _ _)
  | (with_reducible exact laws_toActS.mono _ _)
  | (with_reducible exact laws_toDisk.mono _ _)
  | (with_reducible exact laws_toIntS.mono _ _)
  | (with_reducible exact spec_CutActs.mono _ _ _ _ _)
  | (with_reducible exact LeO.refl _)
  | (with_reducible exact LeO.none _)
  | (with_reducible refine LeO.ite ?_ ?_)
  | (with_reducible refine LeO.bind ?_ (fun _ => ?_))
  | exact ih0 _ _ _ _ _ _ _ _ _ _ _ _
  | exact ih1 _ _ _ _ _ _ _ _
  | exact ih2 _ _ _
  | exact impl_CutActs.mono _ _ _ _ _
  | exact laws_eqActS.mono _ _ _
  | exact laws_eqDisk.mono _ _ _
  | exact laws_eqIntS.mono _ _ _
  | exact laws_heldDisk.mono _ _ _
  | exact laws_markActS.mono _ _ _
  | exact laws_markDisk.mono _ _ _
  | exact laws_markIntS.mono _ _ _
  | exact laws_szActS.mono _ _ _
  | exact laws_szDisk.mono _ _ _
  | exact laws_toActS.mono _ _
  | exact laws_toDisk.mono _ _
  | exact laws_toIntS.mono _ _
  | exact spec_CutActs.mono _ _ _ _ _
  | exact LeO.none _
  | refine LeO.ite ?_ ?_
  | refine LeO.bind ?_ (fun _ => ?_)
theorem laws_FnExactCutActs.mono : ∀ a0 a1 a2 a3 k, LeO (laws_FnExactCutActs.f k a0 a1 a2 a3) (laws_FnExactCutActs.f (k + 1) a0 a1 a2 a3) := by
 intro a0 a1 a2 a3 k
 obtain ⟨ih0, ih1, ih2⟩ := laws_FnExactCutActs.mono_l k
 unfold laws_FnExactCutActs.f
 repeat' first
   | (with_reducible exact ih0 _ _ _ _ _ _ _ _ _ _ _ _)
   | (with_reducible exact ih1 _ _ _ _ _ _ _ _)
   | (with_reducible exact ih2 _ _ _)
   | (with_reducible exact impl_CutActs.mono _ _ _ _ _)
   | (with_reducible exact laws_eqActS.mono _ _ _)
   | (with_reducible exact laws_eqDisk.mono _ _ _)
   | (with_reducible exact laws_eqIntS.mono _ _ _)
   | (with_reducible exact laws_heldDisk.mono _ _ _)
   | (with_reducible exact laws_markActS.mono _ _ _)
   | (with_reducible exact laws_markDisk.mono _ _ _)
   | (with_reducible exact laws_markIntS.mono _ _ _)
   | (with_reducible exact laws_szActS.mono _ _ _)
   | (with_reducible exact laws_szDisk.mono _ _ _)
   | (with_reducible exact laws_toActS.mono _ _)
   | (with_reducible exact laws_toDisk.mono _ _)
   | (with_reducible exact laws_toIntS.mono _ _)
   | (with_reducible exact spec_CutActs.mono _ _ _ _ _)
   | (with_reducible exact LeO.refl _)
   | (with_reducible exact LeO.none _)
   | (with_reducible refine LeO.ite ?_ ?_)
   | (with_reducible refine LeO.bind ?_ (fun _ => ?_))
   | exact ih0 _ _ _ _ _ _ _ _ _ _ _ _
   | exact ih1 _ _ _ _ _ _ _ _
   | exact ih2 _ _ _
   | exact impl_CutActs.mono _ _ _ _ _
   | exact laws_eqActS.mono _ _ _
   | exact laws_eqDisk.mono _ _ _
   | exact laws_eqIntS.mono _ _ _
   | exact laws_heldDisk.mono _ _ _
   | exact laws_markActS.mono _ _ _
   | exact laws_markDisk.mono _ _ _
   | exact laws_markIntS.mono _ _ _
   | exact laws_szActS.mono _ _ _
   | exact laws_szDisk.mono _ _ _
   | exact laws_toActS.mono _ _
   | exact laws_toDisk.mono _ _
   | exact laws_toIntS.mono _ _
   | exact spec_CutActs.mono _ _ _ _ _
   | exact LeO.none _
   | refine LeO.ite ?_ ?_
   | refine LeO.bind ?_ (fun _ => ?_)
theorem laws_FnExactCutActs.j0_t {k : Nat} {y0} {y1} {y2} {y3} {y4} {y5} {y6} {y8} {y9} {y10} {y11} : ¬ laws_FnExactCutActs.j0 k y0 y1 y2 y3 y4 y5 y6 true y8 y9 y10 y11 = some true := by cases k <;> simp [laws_FnExactCutActs.j0]
theorem laws_FnExactCutActs.j1_t {k : Nat} {y0} {y1} {y2} {y3} {y5} {y6} {y7} : ¬ laws_FnExactCutActs.j1 k y0 y1 y2 y3 true y5 y6 y7 = some true := by cases k <;> simp [laws_FnExactCutActs.j1]
theorem laws_FnExactCutActs.j2_t {k : Nat} {y0} {y2} : ¬ laws_FnExactCutActs.j2 k y0 true y2 = some true := by cases k <;> simp [laws_FnExactCutActs.j2]
set_option maxHeartbeats 8000000 in
set_option maxRecDepth 100000 in
theorem laws_FnExactCutActs.calls (k : Nat) (A0_0 : Option Addr) (c0_0 : Nat) (l0_0 : List (S94)) (A1 : Option Addr) (c1 : Nat) (l1 : List (S52)) (a2 : Int) (A3 : Option Addr) (c3 : Nat) (l3 : List Int) (r : Bool) (w : World) (hr0_0 : Kd.C k94 w A0_0 l0_0.length l0_0) (hc0_0 : l0_0.length ≤ c0_0) (hr1 : Kd.C k52 w A1 l1.length l1) (hc1 : l1.length ≤ c1) (hr3 : Kd.C (Kd.int .i64) w A3 l3.length l3) (hc3 : l3.length ≤ c3) (hr_ : r = true) (h : laws_FnExactCutActs.f k l0_0 l1 a2 l3 = some r) :
  Calls Try.prog 11 #[.agg #[.slice A0_0 l0_0.length c0_0], .slice A1 l1.length c1, .int .i64 a2, .slice A3 l3.length c3] w fun e w' => e = .returned (.bool r) ∧ Below w.heap.size w w' := by
 have hu24 := Try.underlying24
 have hu29 := Try.underlying29
 have HR0_0 := Aside0.mk hr0_0
 have Cw := Aside0.mk hc0_0
 clear hr0_0 hc0_0
 have HR1 := Aside0.mk hr1
 have Gl := Aside0.mk hc1
 clear hr1 hc1
 have HR3 := Aside0.mk hr3
 have Hi := Aside0.mk hc3
 clear hr3 hc3
 have HB := Aside0.mk (Below.refl w.heap.size w)
 have HR_ := Aside0.mk hr_
 clear hr_
 have H : (if (l3.length : Int) > 1048576 then (some true) else ((laws_szDisk.f k l0_0 1048576).bind fun Cu => (if Cu < 0 then (some true) else ((laws_szActS.f k l1 Cu).bind fun Dw => (if Dw < 0 then (some true) else ((laws_toDisk.f k l0_0).bind fun Dj => ((laws_toActS.f k l1).bind fun Dv => ((laws_toIntS.f k l3).bind fun Du => ((spec_CutActs.f k Dj Dv a2 Du).bind fun Cz => ((laws_toDisk.f k l0_0).bind fun Ao => ((laws_toActS.f k l1).bind fun Bg => ((laws_toIntS.f k l3).bind fun Bf => ((impl_CutActs.f k Ao Bg a2 Bf).bind fun Bt => ((laws_eqDisk.f k Bt.1 Cz.1).bind fun Di => (if Di = true then (laws_FnExactCutActs.j0 k l1 a2 l3 Cz.2 Bg Bf Bt.2 (Bt.2 != Cz.2) l0_0 Cz.1 Ao Bt.1) else (laws_FnExactCutActs.j0 k l1 a2 l3 Cz.2 Bg Bf Bt.2 true l0_0 Cz.1 Ao Bt.1)))))))))))))))) = some r := h
 clear h
 by_cases c5 : (l3.length : Int) > 1048576
 ·rw [if_pos c5] at H
  have E8 : decide (1048576 < (l3.length : Int)) = true := decide_eq_true c5
  have E7 : decide (1048576 < l3.length) = true := decide_eq_true (by omega)
  clear c5
  obtain rfl := Option.some.inj H
  go_enter Try.func11, Try.ntmps11
  go_wp2_with (first | ((with_reducible refine gate_dst (N := 4) rfl ?_); refine zx (N := 4) (cs := #[.slice A0_0 l0_0.length c0_0]) (t := 24) ?_; intro Cv hg w6 hbox hb; have Ad := Aside0.mk (hbox); have E0 := zg HB hg; have E1 := zg HB hg; replace HB := zs HB hb; clear hb hbox hg))
  go_ret
  exact ⟨ze, zw HB⟩
 rw [if_neg c5] at H
 have E8 : decide (1048576 < (l3.length : Int)) = false := decide_eq_false c5
 have E7 : decide (1048576 < l3.length) = false := decide_eq_false (by omega)
 clear c5
 replace H := Option.bind_eq_some_iff.mp H
 obtain ⟨Cu, Jh, H⟩ := H
 have A7 := Aside0.mk Jh
 clear Jh
 by_cases c8 : Cu < 0
 ·rw [if_pos c8] at H
  have E6 := decide_eq_true c8
  clear c8
  obtain rfl := Option.some.inj H
  go_enter Try.func11, Try.ntmps11
  go_wp2_with (first | ((with_reducible refine gate_dst (N := 4) rfl ?_); refine zx (N := 4) (cs := #[.slice A0_0 l0_0.length c0_0]) (t := 24) ?_; intro Cv hg w9 hbox hb; have Ad := Aside0.mk (hbox); have E0 := zg HB hg; have E1 := zg HB hg; replace HB := zs HB hb; clear hb hbox hg; obtain ⟨En, D9⟩ := zc1 Ad) | ((with_reducible refine gate_callee (f := 12) rfl ?_); refine zG (some 27) Try.func12 #[.agg #[.slice A0_0 l0_0.length c0_0], .int .i64 1048576] ?_; (with_reducible refine (laws_szDisk.calls k _ _ l0_0 1048576 Cu _ ?side1 ?side2 A7.out).mono ?_); (case side1 => exact zI (Kd.C_below HR0_0.out HB.out)); (case side2 => exact Cw.out); rintro e w11 ⟨rfl, hb⟩; refine ⟨_, rfl, ?_⟩; replace Ad := zb Ad hb; replace HB := zs HB hb; clear hb))
  go_ret
  exact ⟨ze, zw HB⟩
 rw [if_neg c8] at H
 have E6 := decide_eq_false c8
 clear c8
 replace H := Option.bind_eq_some_iff.mp H
 obtain ⟨Dw, Hh, H⟩ := H
 have Ji := Aside0.mk Hh
 clear Hh
 by_cases Fa : Dw < 0
 ·rw [if_pos Fa] at H
  have Dm := decide_eq_true Fa
  clear Fa
  obtain rfl := Option.some.inj H
  go_enter Try.func11, Try.ntmps11
  go_wp2_with (first | ((with_reducible refine gate_dst (N := 4) rfl ?_); refine zx (N := 4) (cs := #[.slice A0_0 l0_0.length c0_0]) (t := 24) ?_; intro Cv hg w14 hbox hb; have Ad := Aside0.mk (hbox); have E0 := zg HB hg; have E1 := zg HB hg; replace HB := zs HB hb; clear hb hbox hg; obtain ⟨Ek, D6⟩ := zc1 Ad) | ((with_reducible refine gate_callee (f := 12) rfl ?_); refine zG (some 27) Try.func12 #[.agg #[.slice A0_0 l0_0.length c0_0], .int .i64 1048576] ?_; (with_reducible refine (laws_szDisk.calls k _ _ l0_0 1048576 Cu _ ?side1 ?side2 A7.out).mono ?_); (case side1 => exact zI (Kd.C_below HR0_0.out HB.out)); (case side2 => exact Cw.out); rintro e w16 ⟨rfl, hb⟩; refine ⟨_, rfl, ?_⟩; replace Ad := zb Ad hb; replace HB := zs HB hb; clear hb) | ((with_reducible refine gate_callee (f := 38) rfl ?_); refine zG (some 32) Try.func38 #[.slice A1 l1.length c1, .int .i64 Cu] ?_; (with_reducible refine (laws_szActS.calls k _ _ l1 Cu Dw _ ?side1 ?side2 Ji.out).mono ?_); (case side1 => exact zI (Kd.C_below HR1.out HB.out)); (case side2 => exact Gl.out); rintro e w17 ⟨rfl, hb⟩; refine ⟨_, rfl, ?_⟩; replace Ad := zb Ad hb; replace HB := zs HB hb; clear hb))
  go_ret
  exact ⟨ze, zw HB⟩
 rw [if_neg Fa] at H
 have Dm := decide_eq_false Fa
 clear Fa
 replace H := Option.bind_eq_some_iff.mp H
 obtain ⟨Dj, Hg, H⟩ := H
 have J7 := Aside0.mk Hg
 clear Hg
 replace H := Option.bind_eq_some_iff.mp H
 obtain ⟨Dv, Hf, H⟩ := H
 have J6 := Aside0.mk Hf
 clear Hf
 replace H := Option.bind_eq_some_iff.mp H
 obtain ⟨Du, He, H⟩ := H
 have J5 := Aside0.mk He
 clear He
 replace H := Option.bind_eq_some_iff.mp H
 obtain ⟨⟨Aj, Bh⟩, Hd, H⟩ := H
 replace H : ((laws_toDisk.f k l0_0).bind fun Ao => ((laws_toActS.f k l1).bind fun Bg => ((laws_toIntS.f k l3).bind fun Bf => ((impl_CutActs.f k Ao Bg a2 Bf).bind fun Bt => ((laws_eqDisk.f k Bt.1 Aj).bind fun Di => (if Di = true then (laws_FnExactCutActs.j0 k l1 a2 l3 Bh Bg Bf Bt.2 (Bt.2 != Bh) l0_0 Aj Ao Bt.1) else (laws_FnExactCutActs.j0 k l1 a2 l3 Bh Bg Bf Bt.2 true l0_0 Aj Ao Bt.1))))))) = some r := H
 have J4 := Aside0.mk Hd
 clear Hd
 replace H := Option.bind_eq_some_iff.mp H
 obtain ⟨Ao, Hc, H⟩ := H
 have J3 := Aside0.mk Hc
 clear Hc
 replace H := Option.bind_eq_some_iff.mp H
 obtain ⟨Bg, Hb, H⟩ := H
 have J2 := Aside0.mk Hb
 clear Hb
 replace H := Option.bind_eq_some_iff.mp H
 obtain ⟨Bf, Ha, H⟩ := H
 have J1 := Aside0.mk Ha
 clear Ha
 replace H := Option.bind_eq_some_iff.mp H
 obtain ⟨⟨Ai, Cy⟩, G9, H⟩ := H
 replace H : ((laws_eqDisk.f k Ai Aj).bind fun Di => (if Di = true then (laws_FnExactCutActs.j0 k l1 a2 l3 Bh Bg Bf Cy (Cy != Bh) l0_0 Aj Ao Ai) else (laws_FnExactCutActs.j0 k l1 a2 l3 Bh Bg Bf Cy true l0_0 Aj Ao Ai))) = some r := H
 have J0 := Aside0.mk G9
 clear G9
 have Ge := Aside0.mk H
 clear H
 go_enter Try.func11, Try.ntmps11
 go_upto_region 15 with (first | ((with_reducible refine gate_dst (N := 4) rfl ?_); refine zx (N := 4) (cs := #[.slice A0_0 l0_0.length c0_0]) (t := 24) ?_; intro Cv hg w27 hbox hb; have Ad := Aside0.mk (hbox); have E0 := zg HB hg; have E1 := zg HB hg; replace HB := zs HB hb; clear hb hbox hg; obtain ⟨Ej, D5⟩ := zc1 Ad) | ((with_reducible refine gate_callee (f := 12) rfl ?_); refine zG (some 27) Try.func12 #[.agg #[.slice A0_0 l0_0.length c0_0], .int .i64 1048576] ?_; (with_reducible refine (laws_szDisk.calls k _ _ l0_0 1048576 Cu _ ?side1 ?side2 A7.out).mono ?_); (case side1 => exact zI (Kd.C_below HR0_0.out HB.out)); (case side2 => exact Cw.out); rintro e w29 ⟨rfl, hb⟩; refine ⟨_, rfl, ?_⟩; replace Ad := zb Ad hb; replace HB := zs HB hb; clear hb) | ((with_reducible refine gate_callee (f := 38) rfl ?_); refine zG (some 32) Try.func38 #[.slice A1 l1.length c1, .int .i64 Cu] ?_; (with_reducible refine (laws_szActS.calls k _ _ l1 Cu Dw _ ?side1 ?side2 Ji.out).mono ?_); (case side1 => exact zI (Kd.C_below HR1.out HB.out)); (case side2 => exact Gl.out); rintro e w30 ⟨rfl, hb⟩; refine ⟨_, rfl, ?_⟩; replace Ad := zb Ad hb; replace HB := zs HB hb; clear hb; obtain ⟨Ei, D4⟩ := zc1 Ad) | ((with_reducible refine gate_callee (f := 14) rfl ?_); refine zG (some 37) Try.func14 #[.agg #[.slice A0_0 l0_0.length c0_0]] ?_; (with_reducible refine (laws_toDisk.calls k _ _ l0_0 Dj _ ?side1 ?side2 J7.out).mono ?_); (case side1 => exact zI (Kd.C_below HR0_0.out HB.out)); (case side2 => exact Cw.out); rintro e w32 ⟨v393, rfl, Bb, hb⟩; refine ⟨_, rfl, ?_⟩; have Ar := Aside0.mk (Kd.R_lower Bb (below_size (zw HB))); replace Ad := zb Ad hb; replace HB := zs HB hb; clear Bb hb) | ((with_reducible refine gate_callee (f := 40) rfl ?_); refine zG (some 39) Try.func40 #[.slice A1 l1.length c1] ?_; (with_reducible refine (laws_toActS.calls k _ _ l1 Dv _ ?side1 ?side2 J6.out).mono ?_); (case side1 => exact zI (Kd.C_below HR1.out HB.out)); (case side2 => exact Gl.out); rintro e w33 ⟨v396, rfl, Bb, hb⟩; refine ⟨_, rfl, ?_⟩; replace Ar := zy Ar hb; have Aw := Aside0.mk (Kd.R_lower Bb (below_size (zw HB))); replace Ad := zb Ad hb; replace HB := zs HB hb; clear Bb hb) | ((with_reducible refine gate_callee (f := 29) rfl ?_); refine zG (some 42) Try.func29 #[.slice A3 l3.length c3] ?_; (with_reducible refine (laws_toIntS.calls k _ _ l3 Du _ ?side1 ?side2 J5.out).mono ?_); (case side1 => exact zI (Kd.C_below HR3.out HB.out)); (case side2 => exact Hi.out); rintro e w34 ⟨v399, rfl, Bb, hb⟩; refine ⟨_, rfl, ?_⟩; replace Ar := zy Ar hb; replace Aw := zy Aw hb; have Az := Aside0.mk (Kd.R_lower Bb (below_size (zw HB))); replace Ad := zb Ad hb; replace HB := zs HB hb; clear Bb hb; obtain ⟨Gg, F8, Hy⟩ := Kd.R_slice Ar.out; subst Hy; obtain ⟨Ih, H0, Hx⟩ := Kd.R_slice Aw.out; subst Hx; obtain ⟨Ig, Hz, Hw⟩ := Kd.R_slice Az.out; subst Hw) | ((with_reducible refine gate_callee (f := 46) rfl ?_); refine zG (some 43) Try.func46 #[.agg #[.slice Gg Dj.length F8], .slice Ih Dv.length H0, .int .i64 a2, .slice Ig Du.length Hz] ?_; (with_reducible refine (spec_CutActs.calls k _ _ Dj _ _ Dv a2 _ _ Du Aj Bh _ ?side1 ?side2 ?side3 ?side4 ?side5 ?side6 J4.out).mono ?_); (case side1 => exact zI (Kd.R_reads' Ar.out).2.2); (case side2 => exact (Kd.R_reads' Ar.out).2.1); (case side3 => exact zI (Kd.R_reads' Aw.out).2.2); (case side4 => exact (Kd.R_reads' Aw.out).2.1); (case side5 => exact zI (Kd.R_reads' Az.out).2.2); (case side6 => exact (Kd.R_reads' Az.out).2.1); rintro e w38 ⟨v402, rfl, Bb, hb⟩; refine ⟨_, rfl, ?_⟩; replace Aw := zy Aw hb; replace Az := zy Az hb; have Ay := Aside0.mk (Kd.R_lower (Kd.R_new' Bb (Kd.R_lt (zo Ar.out))) (below_size (zw HB))); replace Ar := Aside0.mk (Kd.R_elder' (zo Ar.out) (Kd.R_base Bb) hb); replace Ad := zb Ad hb; replace HB := zs HB hb; clear Bb hb) | ((with_reducible refine gate_dst (N := 10) rfl ?_); refine zx (N := 10) (cs := #[.slice none 0 0]) (t := 29) ?_; intro Ce hg w39 hbox hb; replace Ar := zy Ar hb; replace Aw := zy Aw hb; replace Az := zy Az hb; replace Ay := zy Ay hb; have Ae := Aside0.mk (hbox); have GW405 := zg HB hg; have GE405 := zg HB hg; replace HB := zs HB hb; have B0 := zl Ad hg; have Bx := zr Ad hg; replace Ad := zb Ad hb; clear hb hbox hg; obtain ⟨Ba, Ax, Hv⟩ := Kd.R_slice Ay.out; subst Hv; have hnb41 := Bx.out; have hnc41 := B0.out; obtain ⟨Eh, D3⟩ := zc1 Ae; obtain ⟨Eg, D2⟩ := zc1 Ad) | ((with_reducible refine gate_callee (f := 14) rfl ?_); refine zG (some 47) Try.func14 #[.agg #[.slice A0_0 l0_0.length c0_0]] ?_; (with_reducible refine (laws_toDisk.calls k _ _ l0_0 Ao _ ?side1 ?side2 J3.out).mono ?_); (case side1 => exact Kd.C_below HR0_0.out (zw HB)); (case side2 => exact Cw.out); rintro e w44 ⟨v407, rfl, Bb, hb⟩; refine ⟨_, rfl, ?_⟩; replace Aw := Aside0.mk (Kd.R_below (zo ((Kd.R_mono (Kd.R_far (p := ⟨Ce, 0, none⟩) (Kd.R_types Aw.out Ae.out (by decide)) (fun _ hk => hk.2) (.slice Ba Aj.length Ax)) (fun _ h_ => h_.1)))) hb); replace Az := Aside0.mk (Kd.R_below (zo ((Kd.R_mono (Kd.R_far (p := ⟨Ce, 0, none⟩) (Kd.R_types Az.out Ae.out (by decide)) (fun _ hk => hk.2) (.slice Ba Aj.length Ax)) (fun _ h_ => h_.1)))) hb); have Bj := Aside0.mk (Kd.R_lower (Kd.R_new' (Kd.R_new' Bb (Kd.R_lt (zo ((Kd.R_mono (Kd.R_far (p := ⟨Ce, 0, none⟩) (Kd.R_types Ar.out Ae.out (by decide)) (fun _ hk => hk.2) (.slice Ba Aj.length Ax)) (fun _ h_ => h_.1)))))) (Kd.R_lt (zo ((Kd.R_mono (Kd.R_far (p := ⟨Ce, 0, none⟩) (Kd.R_types Ay.out Ae.out (by decide)) (fun _ hk => hk.2) (.slice Ba Aj.length Ax)) (fun _ h_ => h_.1)))))) (below_size (zw HB))); replace Ar := Aside0.mk (Kd.R_elder' (zo ((Kd.R_mono (Kd.R_far (p := ⟨Ce, 0, none⟩) (Kd.R_types Ar.out Ae.out (by decide)) (fun _ hk => hk.2) (.slice Ba Aj.length Ax)) (fun _ h_ => h_.1)))) (Kd.R_base Bb) hb); replace Ay := Aside0.mk (Kd.R_elder' (zo ((Kd.R_mono (Kd.R_far (p := ⟨Ce, 0, none⟩) (Kd.R_types Ay.out Ae.out (by decide)) (fun _ hk => hk.2) (.slice Ba Aj.length Ax)) (fun _ h_ => h_.1)))) (Kd.R_base Bb) hb); replace Ad := zbf Ad hb; replace Ae := Aside0.mk (blk_below (g := Ce) (o := .cells #[.slice Ba Aj.length Ax] 29 (0, 0)) (zj Ae) hb); replace HB := zs HB hb; clear Bb hb) | ((with_reducible refine gate_dst (N := 12) rfl ?_); refine zx (N := 12) (cs := #[.slice none 0 0]) (t := 29) ?_; intro Cb hg w45 hbox hb; replace Ar := zy Ar hb; replace Aw := zy Aw hb; replace Az := zy Az hb; replace Ay := zy Ay hb; replace Bj := zy Bj hb; have Af := Aside0.mk (hbox); have GW409 := zg HB hg; have GE409 := zg HB hg; replace HB := zs HB hb; have Cn := zl Ad hg; have Cm := zr Ad hg; replace Ad := zb Ad hb; have Bw := zl Ae hg; have Bv := zr Ae hg; replace Ae := zb Ae hb; clear hb hbox hg; obtain ⟨Au, As, Hu⟩ := Kd.R_slice Bj.out; subst Hu; have hnb47 := Cm.out; have hnc47 := Cn.out; have hnb48 := Bv.out; have hnc48 := Bw.out; obtain ⟨Ef, D1⟩ := zc1 Af) | ((with_reducible refine gate_callee (f := 40) rfl ?_); refine zG (some 49) Try.func40 #[.slice A1 l1.length c1] ?_; (with_reducible refine (laws_toActS.calls k _ _ l1 Bg _ ?side1 ?side2 J2.out).mono ?_); (case side1 => exact Kd.C_below HR1.out (zw HB)); (case side2 => exact Gl.out); rintro e w50 ⟨v411, rfl, Bb, hb⟩; refine ⟨_, rfl, ?_⟩; replace Ar := Aside0.mk (Kd.R_below (zo ((Kd.R_mono (Kd.R_far (p := ⟨Cb, 0, none⟩) (Kd.R_types Ar.out Af.out (by decide)) (fun _ hk => hk.2) (.slice Au Ao.length As)) (fun _ h_ => h_.1)))) hb); replace Az := Aside0.mk (Kd.R_below (zo ((Kd.R_mono (Kd.R_far (p := ⟨Cb, 0, none⟩) (Kd.R_types Az.out Af.out (by decide)) (fun _ hk => hk.2) (.slice Au Ao.length As)) (fun _ h_ => h_.1)))) hb); replace Ay := Aside0.mk (Kd.R_below (zo ((Kd.R_mono (Kd.R_far (p := ⟨Cb, 0, none⟩) (Kd.R_types Ay.out Af.out (by decide)) (fun _ hk => hk.2) (.slice Au Ao.length As)) (fun _ h_ => h_.1)))) hb); replace Bj := Aside0.mk (Kd.R_below (zo ((Kd.R_mono (Kd.R_far (p := ⟨Cb, 0, none⟩) (Kd.R_types Bj.out Af.out (by decide)) (fun _ hk => hk.2) (.slice Au Ao.length As)) (fun _ h_ => h_.1)))) hb); have B2 := Aside0.mk (Kd.R_lower (Kd.R_new' Bb (Kd.R_lt (zo ((Kd.R_mono (Kd.R_far (p := ⟨Cb, 0, none⟩) (Kd.R_types Aw.out Af.out (by decide)) (fun _ hk => hk.2) (.slice Au Ao.length As)) (fun _ h_ => h_.1)))))) (below_size (zw HB))); replace Aw := Aside0.mk (Kd.R_elder' (zo ((Kd.R_mono (Kd.R_far (p := ⟨Cb, 0, none⟩) (Kd.R_types Aw.out Af.out (by decide)) (fun _ hk => hk.2) (.slice Au Ao.length As)) (fun _ h_ => h_.1)))) (Kd.R_base Bb) hb); replace Ad := zbf Ad hb; replace Ae := zbf Ae hb; replace Af := Aside0.mk (blk_below (g := Cb) (o := .cells #[.slice Au Ao.length As] 29 (0, 0)) (zj Af) hb); replace HB := zs HB hb; clear Bb hb) | ((with_reducible refine gate_callee (f := 29) rfl ?_); refine zG (some 51) Try.func29 #[.slice A3 l3.length c3] ?_; (with_reducible refine (laws_toIntS.calls k _ _ l3 Bf _ ?side1 ?side2 J1.out).mono ?_); (case side1 => exact zI (Kd.C_below HR3.out HB.out)); (case side2 => exact Hi.out); rintro e w51 ⟨v414, rfl, Bb, hb⟩; refine ⟨_, rfl, ?_⟩; replace Ar := zy Ar hb; replace Aw := zy Aw hb; replace Ay := zy Ay hb; replace Bj := zy Bj hb; replace B2 := zy B2 hb; have Cf := Aside0.mk (Kd.R_lower (Kd.R_new' Bb (Kd.R_lt (zo Az.out))) (below_size (zw HB))); replace Az := Aside0.mk (Kd.R_elder' (zo Az.out) (Kd.R_base Bb) hb); replace Ad := zb Ad hb; replace Ae := zb Ae hb; replace Af := zb Af hb; replace HB := zs HB hb; clear Bb hb; obtain ⟨Ee, D0⟩ := zc1 Af; obtain ⟨Dc, C9, Ht⟩ := Kd.R_slice B2.out; subst Ht; obtain ⟨Db, C8, Hs⟩ := Kd.R_slice Cf.out; subst Hs) | ((with_reducible refine gate_callee (f := 45) rfl ?_); refine zG (some 57) Try.func45 #[.agg #[.slice Au Ao.length As], .slice Dc Bg.length C9, .int .i64 a2, .slice Db Bf.length C8] ?_; (with_reducible refine (impl_CutActs.calls k _ _ Ao _ _ Bg a2 _ _ Bf Ai Cy _ ?side1 ?side2 ?side3 ?side4 ?side5 ?side6 J0.out).mono ?_); (case side1 => exact zI (Kd.R_reads' Bj.out).2.2); (case side2 => exact (Kd.R_reads' Bj.out).2.1); (case side3 => exact zI (Kd.R_reads' B2.out).2.2); (case side4 => exact (Kd.R_reads' B2.out).2.1); (case side5 => exact zI (Kd.R_reads' Cf.out).2.2); (case side6 => exact (Kd.R_reads' Cf.out).2.1); rintro e w55 ⟨v417, rfl, Bb, hb⟩; refine ⟨_, rfl, ?_⟩; replace Aw := zy Aw hb; replace Az := zy Az hb; replace B2 := zy B2 hb; replace Cf := zy Cf hb; have Cq := Aside0.mk (Kd.R_lower (Kd.R_new' (Kd.R_new' (Kd.R_new' Bb (Kd.R_lt (zo Ar.out))) (Kd.R_lt (zo Ay.out))) (Kd.R_lt (zo Bj.out))) (below_size (zw HB))); replace Ar := Aside0.mk (Kd.R_elder' (zo Ar.out) (Kd.R_base Bb) hb); replace Ay := Aside0.mk (Kd.R_elder' (zo Ay.out) (Kd.R_base Bb) hb); replace Bj := Aside0.mk (Kd.R_elder' (zo Bj.out) (Kd.R_base Bb) hb); replace Ad := zb Ad hb; replace Ae := zb Ae hb; replace Af := zb Af hb; replace HB := zs HB hb; clear Bb hb) | ((with_reducible refine gate_dst (N := 15) rfl ?_); refine zx (N := 15) (cs := #[.slice none 0 0]) (t := 29) ?_; intro Br hg w56 hbox hb; replace Ar := zy Ar hb; replace Aw := zy Aw hb; replace Az := zy Az hb; replace Ay := zy Ay hb; replace Bj := zy Bj hb; replace B2 := zy B2 hb; replace Cf := zy Cf hb; replace Cq := zy Cq hb; have Ag := Aside0.mk (hbox); have GW420 := zg HB hg; have GE420 := zg HB hg; replace HB := zs HB hb; have Bz := zl Ad hg; have Bu := zr Ad hg; replace Ad := zb Ad hb; have Bo := zl Ae hg; have Bm := zr Ae hg; replace Ae := zb Ae hb; have Bn := zl Af hg; have Bl := zr Af hg; replace Af := zb Af hb; clear hb hbox hg; obtain ⟨Aq, Ap, Hr⟩ := Kd.R_slice Cq.out; subst Hr; have hnb58 := Bu.out; have hnc58 := Bz.out; have hnb59 := Bm.out; have hnc59 := Bo.out; have hnb60 := Bl.out; have hnc60 := Bn.out; obtain ⟨Ed, Dz⟩ := zc1 Ag))
 (try simp only [Act.put, zA, zB, zC])
 go_cut [68] (fun Jj wc => ∃ (kq : Nat) (C6 : Bool), Jj = .bool C6 ∧ Aside0 (laws_FnExactCutActs.j0 kq l1 a2 l3 Bh Bg Bf Cy C6 l0_0 Aj Ao Ai = some r) ∧ Aside0 (kq ≤ k) ∧ Aside0 (Kd.R k55 55 wc w.heap.size (fun _ => True) (.slice Dc Bg.length C9) Bg) ∧ Aside0 (Kd.R (Kd.int .i64) 3 wc w.heap.size (fun _ => True) (.slice Db Bf.length C8) Bf) ∧ Aside0 (Kd.R k45 45 wc w.heap.size (fun k_ => some k_ ≠ ((.slice Au Ao.length As) : Value).ownBlock ∧ some k_ ≠ ((.slice Aq Ai.length Ap) : Value).ownBlock) (.slice Ba Aj.length Ax) Aj) ∧ Aside0 (Kd.R k45 45 wc w.heap.size (fun k_ => some k_ ≠ ((.slice Ba Aj.length Ax) : Value).ownBlock ∧ some k_ ≠ ((.slice Aq Ai.length Ap) : Value).ownBlock) (.slice Au Ao.length As) Ao) ∧ Aside0 (Kd.R k45 45 wc w.heap.size (fun k_ => some k_ ≠ ((.slice Ba Aj.length Ax) : Value).ownBlock ∧ some k_ ≠ ((.slice Au Ao.length As) : Value).ownBlock) (.slice Aq Ai.length Ap) Ai) ∧ Aside0 (wc.heap[Cv]? = some (.cells #[(.slice A0_0 l0_0.length c0_0)] 24 (0, 0))) ∧ Aside0 (wc.heap[Ce]? = some (.cells #[(.slice Ba Aj.length Ax)] 29 (0, 0))) ∧ Aside0 (wc.heap[Cb]? = some (.cells #[(.slice Au Ao.length As)] 29 (0, 0))) ∧ Aside0 (wc.heap[Br]? = some (.cells #[(.slice Aq Ai.length Ap)] 29 (0, 0))) ∧ Aside0 (Below w.heap.size w wc))
 case first =>
  have H := Ge.out
  clear Ge
  replace H := Option.bind_eq_some_iff.mp H
  obtain ⟨Di, G8, H⟩ := H
  have Jz := Aside0.mk G8
  clear G8
  by_cases F9 : Di = true
  ·subst F9
   rw [if_pos rfl] at H
   have H' := Aside0.mk H
   clear H
   have hnb64 := Bu.out
   have hnc64 := Bz.out
   have hnb65 := Bm.out
   have hnc65 := Bo.out
   have hnb66 := Bl.out
   have hnc66 := Bn.out
   obtain ⟨Ec, Dy⟩ := zc1 Ag
   have hnb68 := Bx.out
   have hnc68 := B0.out
   have hnb69 := Bw.out
   have hnc69 := Bv.out
   obtain ⟨Eb, Dx⟩ := zc1 Ae
   go_wp2_with (first | ((with_reducible refine gate_callee (f := 16) rfl ?_); refine zG (some 62) Try.func16 #[.agg #[.slice Aq Ai.length Ap], .agg #[.slice Ba Aj.length Ax]] ?_; (with_reducible refine (laws_eqDisk.calls k _ _ Ai _ _ Aj true _ ?side1 ?side2 ?side3 ?side4 Jz.out).mono ?_); (case side1 => refine (Kd.R_reads' (e := 45) (base := w.heap.size) (ok := fun k_ => (((True ∧ some k_ ≠ (.slice Gg Dj.length F8 : Value).ownBlock) ∧ some k_ ≠ (.slice Ba Aj.length Ax : Value).ownBlock) ∧ some k_ ≠ (.slice Au Ao.length As : Value).ownBlock)) (n := Ai.length) (c := Ap) ?_).2.2; exact (zo ((Kd.R_mono (Kd.R_far (p := ⟨Br, 0, none⟩) (Kd.R_types Cq.out Ag.out (by decide)) (fun _ hk => hk.2) (.slice Aq Ai.length Ap)) (fun _ h_ => h_.1))))); (case side2 => exact (Kd.R_reads' Cq.out).2.1); (case side3 => refine (Kd.R_reads' (e := 45) (base := w.heap.size) (ok := fun k_ => (((True ∧ some k_ ≠ (.slice Gg Dj.length F8 : Value).ownBlock) ∧ some k_ ≠ (.slice Au Ao.length As : Value).ownBlock) ∧ some k_ ≠ (.slice Aq Ai.length Ap : Value).ownBlock)) (n := Aj.length) (c := Ax) ?_).2.2; exact (zo ((Kd.R_mono (Kd.R_far (p := ⟨Br, 0, none⟩) (Kd.R_types Ay.out Ag.out (by decide)) (fun _ hk => hk.2) (.slice Aq Ai.length Ap)) (fun _ h_ => h_.1))))); (case side4 => exact (Kd.R_reads' Ay.out).2.1); rintro e w71 ⟨rfl, hb⟩; refine ⟨_, rfl, ?_⟩; replace Ar := Aside0.mk (Kd.R_below (zo ((Kd.R_mono (Kd.R_far (p := ⟨Br, 0, none⟩) (Kd.R_types Ar.out Ag.out (by decide)) (fun _ hk => hk.2) (.slice Aq Ai.length Ap)) (fun _ h_ => h_.1)))) hb); replace Aw := Aside0.mk (Kd.R_below (zo ((Kd.R_mono (Kd.R_far (p := ⟨Br, 0, none⟩) (Kd.R_types Aw.out Ag.out (by decide)) (fun _ hk => hk.2) (.slice Aq Ai.length Ap)) (fun _ h_ => h_.1)))) hb); replace Az := Aside0.mk (Kd.R_below (zo ((Kd.R_mono (Kd.R_far (p := ⟨Br, 0, none⟩) (Kd.R_types Az.out Ag.out (by decide)) (fun _ hk => hk.2) (.slice Aq Ai.length Ap)) (fun _ h_ => h_.1)))) hb); replace Ay := Aside0.mk (Kd.R_below (zo ((Kd.R_mono (Kd.R_far (p := ⟨Br, 0, none⟩) (Kd.R_types Ay.out Ag.out (by decide)) (fun _ hk => hk.2) (.slice Aq Ai.length Ap)) (fun _ h_ => h_.1)))) hb); replace Bj := Aside0.mk (Kd.R_below (zo ((Kd.R_mono (Kd.R_far (p := ⟨Br, 0, none⟩) (Kd.R_types Bj.out Ag.out (by decide)) (fun _ hk => hk.2) (.slice Aq Ai.length Ap)) (fun _ h_ => h_.1)))) hb); replace B2 := Aside0.mk (Kd.R_below (zo ((Kd.R_mono (Kd.R_far (p := ⟨Br, 0, none⟩) (Kd.R_types B2.out Ag.out (by decide)) (fun _ hk => hk.2) (.slice Aq Ai.length Ap)) (fun _ h_ => h_.1)))) hb); replace Cf := Aside0.mk (Kd.R_below (zo ((Kd.R_mono (Kd.R_far (p := ⟨Br, 0, none⟩) (Kd.R_types Cf.out Ag.out (by decide)) (fun _ hk => hk.2) (.slice Aq Ai.length Ap)) (fun _ h_ => h_.1)))) hb); replace Cq := Aside0.mk (Kd.R_below (zo ((Kd.R_mono (Kd.R_far (p := ⟨Br, 0, none⟩) (Kd.R_types Cq.out Ag.out (by decide)) (fun _ hk => hk.2) (.slice Aq Ai.length Ap)) (fun _ h_ => h_.1)))) hb); replace Ad := zbf Ad hb; replace Ae := zbf Ae hb; replace Af := zbf Af hb; replace Ag := Aside0.mk (blk_below (g := Br) (o := .cells #[.slice Aq Ai.length Ap] 29 (0, 0)) (zj Ag) hb); replace HB := zs HB hb; clear hb))
   go_meet
   case rel => exact ⟨_, ((Cy != Bh)), zf, H', ⟨by first | omega | exact Nat.le_refl _⟩, ⟨zo (Kd.R_mono B2.out (fun _ hk => trivial))⟩, ⟨zo (Kd.R_mono Cf.out (fun _ hk => trivial))⟩, ⟨zo (Kd.R_mono Ay.out (fun _ hk => ⟨hk.1.2, hk.2⟩))⟩, ⟨zo (Kd.R_mono Bj.out (fun _ hk => ⟨hk.1.2, hk.2⟩))⟩, ⟨zo (Kd.R_mono Cq.out (fun _ hk => ⟨hk.1.2, hk.2⟩))⟩, ⟨zkf Ad⟩, ⟨zkf Ae⟩, ⟨zkf Af⟩, ⟨zkf Ag⟩, ⟨zw HB⟩⟩
  replace F9 := Bool.eq_false_iff.mpr F9
  subst F9
  rw [if_neg (show ¬ (false = true) by decide)] at H
  exact absurd (H.trans (congrArg some HR_.out)) laws_FnExactCutActs.j0_t
 case rest =>
  clear Ge
  try clear c1
  try clear c2
  try clear p2
  try clear c3
  try clear c4
  try clear c5
  try clear E8
  try clear E7
  try clear c6
  try clear c7
  try clear c8
  try clear E6
  try clear Jg
  try clear Jf
  try clear Fa
  try clear Dm
  try clear Je
  try clear Jd
  try clear Jc
  try clear Jb
  try clear Ja
  try clear I9
  try clear I8
  try clear I7
  try clear I6
  try clear I5
  try clear I4
  try clear I3
  try clear I2
  try clear F9
  try clear I1
  try clear I0
  try clear Iz
  try clear Iy
  try clear Ix
  try clear Iw
  try clear Iv
  try clear Iu
  try clear Is
  try clear Ir
  try clear En
  try clear Ek
  try clear Ej
  try clear Ei
  try clear Eh
  try clear Eg
  try clear Ef
  try clear Ee
  try clear Ed
  try clear Ec
  try clear Eb
  try clear Fe
  try clear Fd
  try clear D9
  try clear D6
  try clear D5
  try clear D4
  try clear D3
  try clear D2
  try clear D1
  try clear D0
  try clear Dz
  try clear Dy
  try clear Dx
  try clear Fc
  try clear Fb
  obtain ⟨kq, C6, rfl, HA, HJ25, Am, Al, Ac, Ab, Aa, Ad, Ae, Af, Ag, HB⟩ := hcut
  cases kq with
  | zero => exact absurd HA.out (by simp [laws_FnExactCutActs.j0])
  | succ Bi =>
   have H := HA.out
   clear HA
   simp only [laws_FnExactCutActs.j0] at H
   by_cases Gk : C6 = true
   ·subst Gk
    rw [if_pos rfl] at H
    obtain rfl := Option.some.inj H
    exact absurd HR_.out (by decide)
   replace Gk := Bool.eq_false_iff.mpr Gk
   subst Gk
   rw [if_neg (show ¬ (false = true) by decide)] at H
   replace H := Option.bind_eq_some_iff.mp H
   obtain ⟨Ct, G7, H⟩ := H
   have Jy := Aside0.mk G7
   clear G7
   replace H := Option.bind_eq_some_iff.mp H
   obtain ⟨Hp, G6, H⟩ := H
   have Jx := Aside0.mk G6
   clear G6
   by_cases Gj : Hp = true
   ·subst Gj
    rw [if_pos rfl] at H
    replace H := Option.bind_eq_some_iff.mp H
    obtain ⟨Dt, G5, H⟩ := H
    have Jw := Aside0.mk G5
    clear G5
    replace H := Option.bind_eq_some_iff.mp H
    obtain ⟨Ho, G4, H⟩ := H
    have Jv := Aside0.mk G4
    clear G4
    by_cases Gi : Ho = true
    ·subst Gi
     rw [if_pos rfl] at H
     replace H := Option.bind_eq_some_iff.mp H
     obtain ⟨Ds, G3, H⟩ := H
     have Ju := Aside0.mk G3
     clear G3
     replace H := Option.bind_eq_some_iff.mp H
     obtain ⟨Hn, G2, H⟩ := H
     have Jt := Aside0.mk G2
     clear G2
     by_cases Gh : Hn = true
     ·subst Gh
      rw [if_pos rfl] at H
      replace H := Option.bind_eq_some_iff.mp H
      obtain ⟨⟨E5, Cs⟩, G1, H⟩ := H
      replace H : ((laws_markActS.f Bi Bg E5).bind fun Gw => ((laws_markIntS.f Bi Bf Gw.1).bind fun Ey => (if Ey.1 < 0 then (laws_FnExactCutActs.j1 Bi l1 a2 l3 Bh true l0_0 Aj Ai) else ((laws_eqDisk.f Bi Ai Aj).bind fun Dh => (if Dh = true then (laws_FnExactCutActs.j1 Bi l1 a2 l3 Bh (Cy != Bh) l0_0 Aj Ai) else (laws_FnExactCutActs.j1 Bi l1 a2 l3 Bh true l0_0 Aj Ai)))))) = some r := H
      have Js := Aside0.mk G1
      clear G1
      replace H := Option.bind_eq_some_iff.mp H
      obtain ⟨⟨E4, Hm⟩, G0, H⟩ := H
      replace H : ((laws_markIntS.f Bi Bf E4).bind fun Ey => (if Ey.1 < 0 then (laws_FnExactCutActs.j1 Bi l1 a2 l3 Bh true l0_0 Aj Ai) else ((laws_eqDisk.f Bi Ai Aj).bind fun Dh => (if Dh = true then (laws_FnExactCutActs.j1 Bi l1 a2 l3 Bh (Cy != Bh) l0_0 Aj Ai) else (laws_FnExactCutActs.j1 Bi l1 a2 l3 Bh true l0_0 Aj Ai))))) = some r := H
      have Jr := Aside0.mk G0
      clear G0
      replace H := Option.bind_eq_some_iff.mp H
      obtain ⟨⟨Fq, Hl⟩, Gz, H⟩ := H
      replace H : (if Fq < 0 then (laws_FnExactCutActs.j1 Bi l1 a2 l3 Bh true l0_0 Aj Ai) else ((laws_eqDisk.f Bi Ai Aj).bind fun Dh => (if Dh = true then (laws_FnExactCutActs.j1 Bi l1 a2 l3 Bh (Cy != Bh) l0_0 Aj Ai) else (laws_FnExactCutActs.j1 Bi l1 a2 l3 Bh true l0_0 Aj Ai)))) = some r := H
      have Jq := Aside0.mk Gz
      clear Gz
      have Gd := Aside0.mk H
      clear H
      try go_wp2
      replace Am := Aside0.mk (Kd.R_drew Am.out)
      replace Al := Aside0.mk (Kd.R_drew Al.out)
      replace Ac := Aside0.mk (Kd.R_drew Ac.out)
      replace Ab := Aside0.mk (Kd.R_drew Ab.out)
      replace Aa := Aside0.mk (Kd.R_drew Aa.out)
      replace Ad := Aside0.mk (blk_drew Ad.out)
      replace Ae := Aside0.mk (blk_drew Ae.out)
      replace Af := Aside0.mk (blk_drew Af.out)
      replace Ag := Aside0.mk (blk_drew Ag.out)
      replace HB := Aside0.mk (below_drew1 HB.out)
      refine start_ (n := 5) (S := fun w' => w'.cell? ⟨Cb, 0, none⟩ = some (.slice Au Ao.length As) ∧ w'.cell? ⟨Cv, 0, none⟩ = some (.slice A0_0 l0_0.length c0_0)) (ds := []) #[false, false, false, false, false] (by kernel_rfl) rfl rfl ⟨zv Af, zv Ad⟩ (fun hHeld => ?_)
      generalize wc.drew = w94 at Am Al Ac Ab Aa Ad Ae Af Ag HB hHeld ⊢
      refine take_ (i := 0) (N := some 69) (v := ?_) (a' := ?_) #[true, false, false, false, false] rfl rfl (by kernel_rfl) (fun _ _ _ h => h) (Or.inl ⟨by rfl, ?_⟩) hHeld ?_ ?_
      rotate_left
      ·rintro w' ⟨s0, s1⟩
       go_simp
       with_reducible rfl
      rotate_left
      ·simp only [Act.put, zA, zB, zC, i64_w, i32_w]
       rfl
      refine take_ (i := 1) (N := some 70) (v := ?_) (a' := ?_) #[true, true, false, false, false] rfl rfl (by kernel_rfl) (fun _ _ _ h => h) (Or.inl ⟨by rfl, ?_⟩) hHeld ?_ ?_
      rotate_left
      ·rintro w' ⟨s0, s1⟩
       go_simp
       with_reducible rfl
      rotate_left
      ·simp only [Act.put, zA, zB, zC, i64_w, i32_w]
       rfl
      refine one_ (i := 2) (N := some 71) #[true, true, true, false, false] rfl rfl (by kernel_rfl) (by decide) (fun K hK => ?_)
      refine zH Try.func14 #[.agg #[.slice A0_0 l0_0.length c0_0]] ?_
      with_reducible refine (laws_toDisk.calls Bi _ _ l0_0 Ct _ ?side1 ?side2 Jy.out).mono ?_
      (case side1 => exact zI (Kd.C_below HR0_0.out HB.out))
      (case side2 => exact Cw.out)
      rintro e w95 ⟨v423, rfl, Bb, hb⟩
      refine ⟨_, rfl, ?_⟩
      replace Am := zy Am hb
      replace Al := zy Al hb
      have Bc := Aside0.mk (Kd.R_lower (Kd.R_new' (Kd.R_new' (Kd.R_new' Bb (Kd.R_lt (zo Ac.out))) (Kd.R_lt (zo Ab.out))) (Kd.R_lt (zo Aa.out))) (below_size (zw HB)))
      replace Ac := Aside0.mk (Kd.R_elder' (zo Ac.out) (Kd.R_base Bb) hb)
      replace Ab := Aside0.mk (Kd.R_elder' (zo Ab.out) (Kd.R_base Bb) hb)
      replace Aa := Aside0.mk (Kd.R_elder' (zo Aa.out) (Kd.R_base Bb) hb)
      replace Ad := zb Ad hb
      replace Ae := zb Ae hb
      replace Af := zb Af hb
      replace Ag := zb Ag hb
      replace HB := zs HB hb
      (try clear hb)
      (try clear hb2)
      (try clear hk)
      (try clear hi)
      (try clear Bb)
      obtain ⟨Da, C7, Gn⟩ := Kd.R_slice Bc.out
      (first | subst Gn | (injection Gn with f1_ f2_ f3_; have f4_ := f1_.symm; have f5_ := f3_.symm; clear f1_ f2_ f3_; subst f4_; subst f5_))
      refine hK.out _ _ ⟨zv Af, zv Ad⟩ (fun hHeld => ?_)
      clear hK K
      refine zN ?_
      refine one_ (i := 3) (N := some 72) #[true, true, true, true, false] rfl rfl (by kernel_rfl) (by decide) (fun K hK => ?_)
      refine zH Try.func16 #[.agg #[.slice Au Ao.length As], .agg #[.slice Da Ct.length C7]] ?_
      with_reducible refine (laws_eqDisk.calls Bi _ _ Ao _ _ Ct true _ ?side1 ?side2 ?side3 ?side4 Jx.out).mono ?_
      (case side1 => exact zI (Kd.R_reads' Ab.out).2.2)
      (case side2 => exact (Kd.R_reads' Ab.out).2.1)
      (case side3 => exact zI (Kd.R_reads' Bc.out).2.2)
      (case side4 => exact (Kd.R_reads' Bc.out).2.1)
      rintro e w97 ⟨rfl, hb⟩
      refine ⟨_, rfl, ?_⟩
      replace Am := zy Am hb
      replace Al := zy Al hb
      replace Ac := zy Ac hb
      replace Ab := zy Ab hb
      replace Aa := zy Aa hb
      replace Bc := zy Bc hb
      replace Ad := zb Ad hb
      replace Ae := zb Ae hb
      replace Af := zb Af hb
      replace Ag := zb Ag hb
      replace HB := zs HB hb
      (try clear hb)
      (try clear hb2)
      (try clear hk)
      (try clear hi)
      refine hK.out _ _ ⟨zv Af, zv Ad⟩ (fun hHeld => ?_)
      clear hK K
      refine zN ?_
      refine pure_ (i := 4) (N := some 73) (v := ?_) (a' := ?_) #[true, true, true, true, true] rfl rfl (by kernel_rfl) (fun _ _ _ h => h) (Or.inl ⟨by rfl, ?_⟩) ?_ ?_
      rotate_left
      ·intro w'
       go_simp
       with_reducible rfl
      rotate_left
      ·simp only [Act.put, zA, zB, zC, i64_w, i32_w]
       rfl
      refine done_ (by kernel_rfl) ?_
      go_upto_region 27 with (first | ((with_reducible refine gate_callee (f := 40) rfl ?_); refine zG (some 76) Try.func40 #[.slice A1 l1.length c1] ?_; (with_reducible refine (laws_toActS.calls Bi _ _ l1 Dt _ ?side1 ?side2 Jw.out).mono ?_); (case side1 => exact zI (Kd.C_below HR1.out HB.out)); (case side2 => exact Gl.out); rintro e w98 ⟨v427, rfl, Bb, hb⟩; refine ⟨_, rfl, ?_⟩; replace Al := zy Al hb; replace Ac := zy Ac hb; replace Ab := zy Ab hb; replace Aa := zy Aa hb; replace Bc := zy Bc hb; have Bp := Aside0.mk (Kd.R_lower (Kd.R_new' Bb (Kd.R_lt (zo Am.out))) (below_size (zw HB))); replace Am := Aside0.mk (Kd.R_elder' (zo Am.out) (Kd.R_base Bb) hb); replace Ad := zb Ad hb; replace Ae := zb Ae hb; replace Af := zb Af hb; replace Ag := zb Ag hb; replace HB := zs HB hb; clear Bb hb; obtain ⟨Gf, F7, Hq⟩ := Kd.R_slice Bp.out; subst Hq) | ((with_reducible refine gate_callee (f := 42) rfl ?_); refine zG (some 77) Try.func42 #[.slice Dc Bg.length C9, .slice Gf Dt.length F7] ?_; (with_reducible refine (laws_eqActS.calls Bi _ _ Bg _ _ Dt true _ ?side1 ?side2 ?side3 ?side4 Jv.out).mono ?_); (case side1 => exact zI (Kd.R_reads' Am.out).2.2); (case side2 => exact (Kd.R_reads' Am.out).2.1); (case side3 => exact zI (Kd.R_reads' Bp.out).2.2); (case side4 => exact (Kd.R_reads' Bp.out).2.1); rintro e w100 ⟨rfl, hb⟩; refine ⟨_, rfl, ?_⟩; replace Am := zy Am hb; replace Al := zy Al hb; replace Ac := zy Ac hb; replace Ab := zy Ab hb; replace Aa := zy Aa hb; replace Bc := zy Bc hb; replace Bp := zy Bp hb; replace Ad := zb Ad hb; replace Ae := zb Ae hb; replace Af := zb Af hb; replace Ag := zb Ag hb; replace HB := zs HB hb; clear hb) | ((with_reducible refine gate_callee (f := 29) rfl ?_); refine zG (some 81) Try.func29 #[.slice A3 l3.length c3] ?_; (with_reducible refine (laws_toIntS.calls Bi _ _ l3 Ds _ ?side1 ?side2 Ju.out).mono ?_); (case side1 => exact zI (Kd.C_below HR3.out HB.out)); (case side2 => exact Hi.out); rintro e w101 ⟨v431, rfl, Bb, hb⟩; refine ⟨_, rfl, ?_⟩; replace Am := zy Am hb; replace Ac := zy Ac hb; replace Ab := zy Ab hb; replace Aa := zy Aa hb; replace Bc := zy Bc hb; replace Bp := zy Bp hb; have Cd := Aside0.mk (Kd.R_lower (Kd.R_new' Bb (Kd.R_lt (zo Al.out))) (below_size (zw HB))); replace Al := Aside0.mk (Kd.R_elder' (zo Al.out) (Kd.R_base Bb) hb); replace Ad := zb Ad hb; replace Ae := zb Ae hb; replace Af := zb Af hb; replace Ag := zb Ag hb; replace HB := zs HB hb; clear Bb hb; obtain ⟨E3, Er, Gt⟩ := Kd.R_slice Cd.out; subst Gt) | ((with_reducible refine gate_callee (f := 30) rfl ?_); refine zG (some 82) Try.func30 #[.slice Db Bf.length C8, .slice E3 Ds.length Er] ?_; (with_reducible refine (laws_eqIntS.calls Bi _ _ Bf _ _ Ds true _ ?side1 ?side2 ?side3 ?side4 Jt.out).mono ?_); (case side1 => exact zI (Kd.R_reads' Al.out).2.2); (case side2 => exact (Kd.R_reads' Al.out).2.1); (case side3 => exact zI (Kd.R_reads' Cd.out).2.2); (case side4 => exact (Kd.R_reads' Cd.out).2.1); rintro e w' ⟨rfl, ⟨nd, rfl⟩⟩; refine ⟨_, rfl, ?_⟩; have hnb103 := Cm.out; have hnc103 := Cn.out; have hnb104 := Bv.out; have hnc104 := Bw.out; have hnb105 := Bn.out; have hnc105 := Bl.out; obtain ⟨Eo, Ea⟩ := zc1 Af) | ((with_reducible refine gate_callee (f := 31) rfl ?_); refine zG (some 86) Try.func31 #[.agg #[.slice Au Ao.length As], .int .i64 1] ?_; (with_reducible refine (laws_markDisk.calls Bi (fun k_ => some k_ = (.slice Au Ao.length As : Value).ownBlock) (.slice Au Ao.length As) Ao 1 E5 Cs w _ ?side1 ?side2 Js.out).mono ?_); (case side1 => exact zw HB); (case side2 => exact Kd.R_tight rfl Ab.out); rintro e w107 ⟨rfl, Ep, hb, hkp⟩; refine ⟨_, rfl, ?_⟩; replace Am := Aside0.mk (Kd.R_mono (ok' := fun k_ => some k_ ≠ (.slice Gf Dt.length F7 : Value).ownBlock) (Kd.R_keptB ((Kd.R_apart' Am.out (Kd.R_typed Ab.out) (by decide))) hkp (fun k_ hk_ hs_ => (hk_.2) hs_)) (fun k_ hk_ => hk_.1.1.2)); replace Al := Aside0.mk (Kd.R_mono (ok' := fun k_ => some k_ ≠ (.slice E3 Ds.length Er : Value).ownBlock) (Kd.R_keptB ((Kd.R_apart' Al.out (Kd.R_typed Ab.out) (by decide))) hkp (fun k_ hk_ hs_ => (hk_.2) hs_)) (fun k_ hk_ => hk_.1.1.2)); replace Ac := Aside0.mk (Kd.R_mono (ok' := fun k_ => some k_ ≠ (.slice Au Ao.length As : Value).ownBlock ∧ some k_ ≠ (.slice Aq Ai.length Ap : Value).ownBlock ∧ some k_ ≠ (.slice Da Ct.length C7 : Value).ownBlock) (Kd.R_keptB (Ac.out) hkp (fun k_ hk_ hs_ => (hk_.1.1) hs_)) (fun k_ hk_ => ⟨hk_.1.1.1, hk_.1.1.2, hk_.1.2⟩)); replace Aa := Aside0.mk (Kd.R_mono (ok' := fun k_ => some k_ ≠ (.slice Ba Aj.length Ax : Value).ownBlock ∧ some k_ ≠ (.slice Au Ao.length As : Value).ownBlock ∧ some k_ ≠ (.slice Da Ct.length C7 : Value).ownBlock) (Kd.R_keptB (Aa.out) hkp (fun k_ hk_ hs_ => (hk_.1.2) hs_)) (fun k_ hk_ => ⟨hk_.1.1.1, hk_.1.1.2, hk_.1.2⟩)); replace Ad := Aside0.mk (blk_kept (zk Ad) hkp (fun hs_ => (fun e_ => (Kd.R_ne Ab.out Ad.out (by decide)) e_) hs_)); replace Ae := Aside0.mk (blk_kept (zk Ae) hkp (fun hs_ => (fun e_ => (Kd.R_ne Ab.out Ae.out (by decide)) e_) hs_)); replace Af := Aside0.mk (blk_kept (zk Af) hkp (fun hs_ => (fun e_ => (Kd.R_ne Ab.out Af.out (by decide)) e_) hs_)); replace Ag := Aside0.mk (blk_kept (zk Ag) hkp (fun hs_ => (fun e_ => (Kd.R_ne Ab.out Ag.out (by decide)) e_) hs_)); replace Bc := Aside0.mk (Kd.R_mono (ok' := fun k_ => some k_ ≠ (.slice Ba Aj.length Ax : Value).ownBlock ∧ some k_ ≠ (.slice Au Ao.length As : Value).ownBlock ∧ some k_ ≠ (.slice Aq Ai.length Ap : Value).ownBlock) (Kd.R_keptB (Bc.out) hkp (fun k_ hk_ hs_ => (hk_.1.2) hs_)) (fun k_ hk_ => ⟨hk_.1.1.1.2, hk_.1.1.2, hk_.1.2⟩)); replace Bp := Aside0.mk (Kd.R_mono (ok' := fun k_ => some k_ ≠ (.slice Dc Bg.length C9 : Value).ownBlock) (Kd.R_keptB ((Kd.R_apart' Bp.out (Kd.R_typed Ab.out) (by decide))) hkp (fun k_ hk_ hs_ => (hk_.2) hs_)) (fun k_ hk_ => hk_.1.1.2)); replace Cd := Aside0.mk (Kd.R_mono (ok' := fun k_ => some k_ ≠ (.slice Db Bf.length C8 : Value).ownBlock) (Kd.R_keptB ((Kd.R_apart' Cd.out (Kd.R_typed Ab.out) (by decide))) hkp (fun k_ hk_ hs_ => (hk_.2) hs_)) (fun k_ hk_ => hk_.1.1.2)); replace Ab := Aside0.mk (Kd.R_reok rfl Ep (fun k_ e_ => Ab.out.1 k_ e_)); replace HB := Aside0.mk (hb); clear hb; (try clear hkp); (try clear Ep)) | ((with_reducible refine gate_callee (f := 43) rfl ?_); refine zG (some 89) Try.func43 #[.slice Dc Bg.length C9, .int .i64 E5] ?_; (with_reducible refine (laws_markActS.calls Bi (fun k_ => some k_ = (.slice Dc Bg.length C9 : Value).ownBlock) (.slice Dc Bg.length C9) Bg E5 E4 Hm w _ ?side1 ?side2 Jr.out).mono ?_); (case side1 => exact zw HB); (case side2 => exact Kd.R_tight rfl Am.out); rintro e w108 ⟨rfl, Ep, hb, hkp⟩; refine ⟨_, rfl, ?_⟩; replace Al := Aside0.mk (Kd.R_mono (ok' := fun k_ => some k_ ≠ (.slice E3 Ds.length Er : Value).ownBlock) (Kd.R_keptB ((Kd.R_apart' Al.out (Kd.R_typed Am.out) (by decide))) hkp (fun k_ hk_ hs_ => (hk_.2) hs_)) (fun k_ hk_ => hk_.1.1)); replace Ac := Aside0.mk (Kd.R_mono (ok' := fun k_ => some k_ ≠ (.slice Au Ao.length As : Value).ownBlock ∧ some k_ ≠ (.slice Aq Ai.length Ap : Value).ownBlock ∧ some k_ ≠ (.slice Da Ct.length C7 : Value).ownBlock) (Kd.R_keptB ((Kd.R_apart' Ac.out (Kd.R_typed Am.out) (by decide))) hkp (fun k_ hk_ hs_ => (hk_.2) hs_)) (fun k_ hk_ => ⟨hk_.1.1.1, hk_.1.1.2.1, hk_.1.1.2.2⟩)); replace Ab := Aside0.mk (Kd.R_mono (ok' := fun k_ => some k_ ≠ (.slice Ba Aj.length Ax : Value).ownBlock ∧ some k_ ≠ (.slice Aq Ai.length Ap : Value).ownBlock ∧ some k_ ≠ (.slice Da Ct.length C7 : Value).ownBlock) (Kd.R_keptB ((Kd.R_apart' Ab.out (Kd.R_typed Am.out) (by decide))) hkp (fun k_ hk_ hs_ => (hk_.2) hs_)) (fun k_ hk_ => ⟨hk_.1.1.1.1, hk_.1.1.1.2, hk_.1.1.2⟩)); replace Aa := Aside0.mk (Kd.R_mono (ok' := fun k_ => some k_ ≠ (.slice Ba Aj.length Ax : Value).ownBlock ∧ some k_ ≠ (.slice Au Ao.length As : Value).ownBlock ∧ some k_ ≠ (.slice Da Ct.length C7 : Value).ownBlock) (Kd.R_keptB ((Kd.R_apart' Aa.out (Kd.R_typed Am.out) (by decide))) hkp (fun k_ hk_ hs_ => (hk_.2) hs_)) (fun k_ hk_ => ⟨hk_.1.1.1, hk_.1.1.2.1, hk_.1.1.2.2⟩)); replace Ad := Aside0.mk (blk_kept (zk Ad) hkp (fun hs_ => (fun e_ => (Kd.R_ne Am.out Ad.out (by decide)) e_) hs_)); replace Ae := Aside0.mk (blk_kept (zk Ae) hkp (fun hs_ => (fun e_ => (Kd.R_ne Am.out Ae.out (by decide)) e_) hs_)); replace Af := Aside0.mk (blk_kept (zk Af) hkp (fun hs_ => (fun e_ => (Kd.R_ne Am.out Af.out (by decide)) e_) hs_)); replace Ag := Aside0.mk (blk_kept (zk Ag) hkp (fun hs_ => (fun e_ => (Kd.R_ne Am.out Ag.out (by decide)) e_) hs_)); replace Bc := Aside0.mk (Kd.R_mono (ok' := fun k_ => some k_ ≠ (.slice Ba Aj.length Ax : Value).ownBlock ∧ some k_ ≠ (.slice Au Ao.length As : Value).ownBlock ∧ some k_ ≠ (.slice Aq Ai.length Ap : Value).ownBlock) (Kd.R_keptB ((Kd.R_apart' Bc.out (Kd.R_typed Am.out) (by decide))) hkp (fun k_ hk_ hs_ => (hk_.2) hs_)) (fun k_ hk_ => ⟨hk_.1.1.1, hk_.1.1.2.1, hk_.1.1.2.2⟩)); replace Bp := Aside0.mk (Kd.R_mono (ok' := fun k_ => some k_ ≠ (.slice Dc Bg.length C9 : Value).ownBlock) (Kd.R_keptB (Bp.out) hkp (fun k_ hk_ hs_ => (hk_) hs_)) (fun k_ hk_ => hk_.1)); replace Cd := Aside0.mk (Kd.R_mono (ok' := fun k_ => some k_ ≠ (.slice Db Bf.length C8 : Value).ownBlock) (Kd.R_keptB ((Kd.R_apart' Cd.out (Kd.R_typed Am.out) (by decide))) hkp (fun k_ hk_ hs_ => (hk_.2) hs_)) (fun k_ hk_ => hk_.1.1)); replace Am := Aside0.mk (Kd.R_reok rfl Ep (fun k_ e_ => Am.out.1 k_ e_)); replace HB := Aside0.mk (hb); clear hb; (try clear hkp); (try clear Ep)) | ((with_reducible refine gate_callee (f := 32) rfl ?_); refine zG (some 92) Try.func32 #[.slice Db Bf.length C8, .int .i64 E4] ?_; (with_reducible refine (laws_markIntS.calls Bi (fun k_ => some k_ = (.slice Db Bf.length C8 : Value).ownBlock) (.slice Db Bf.length C8) Bf E4 Fq Hl w _ ?side1 ?side2 Jq.out).mono ?_); (case side1 => exact zw HB); (case side2 => exact Kd.R_tight rfl Al.out); rintro e w109 ⟨rfl, Ep, hb, hkp⟩; refine ⟨_, rfl, ?_⟩; replace Am := Aside0.mk (Kd.R_mono (ok' := fun k_ => some k_ ≠ (.slice Gf Dt.length F7 : Value).ownBlock) (Kd.R_keptB ((Kd.R_apart' Am.out (Kd.R_typed Al.out) (by decide))) hkp (fun k_ hk_ hs_ => (hk_.2) hs_)) (fun k_ hk_ => hk_.1.1)); replace Ac := Aside0.mk (Kd.R_mono (ok' := fun k_ => some k_ ≠ (.slice Au Ao.length As : Value).ownBlock ∧ some k_ ≠ (.slice Aq Ai.length Ap : Value).ownBlock ∧ some k_ ≠ (.slice Da Ct.length C7 : Value).ownBlock) (Kd.R_keptB ((Kd.R_apart' Ac.out (Kd.R_typed Al.out) (by decide))) hkp (fun k_ hk_ hs_ => (hk_.2) hs_)) (fun k_ hk_ => ⟨hk_.1.1.1, hk_.1.1.2.1, hk_.1.1.2.2⟩)); replace Ab := Aside0.mk (Kd.R_mono (ok' := fun k_ => some k_ ≠ (.slice Ba Aj.length Ax : Value).ownBlock ∧ some k_ ≠ (.slice Aq Ai.length Ap : Value).ownBlock ∧ some k_ ≠ (.slice Da Ct.length C7 : Value).ownBlock) (Kd.R_keptB ((Kd.R_apart' Ab.out (Kd.R_typed Al.out) (by decide))) hkp (fun k_ hk_ hs_ => (hk_.2) hs_)) (fun k_ hk_ => ⟨hk_.1.1.1, hk_.1.1.2.1, hk_.1.1.2.2⟩)); replace Aa := Aside0.mk (Kd.R_mono (ok' := fun k_ => some k_ ≠ (.slice Ba Aj.length Ax : Value).ownBlock ∧ some k_ ≠ (.slice Au Ao.length As : Value).ownBlock ∧ some k_ ≠ (.slice Da Ct.length C7 : Value).ownBlock) (Kd.R_keptB ((Kd.R_apart' Aa.out (Kd.R_typed Al.out) (by decide))) hkp (fun k_ hk_ hs_ => (hk_.2) hs_)) (fun k_ hk_ => ⟨hk_.1.1.1, hk_.1.1.2.1, hk_.1.1.2.2⟩)); replace Ad := Aside0.mk (blk_kept (zk Ad) hkp (fun hs_ => (fun e_ => (Kd.R_ne Al.out Ad.out (by decide)) e_) hs_)); replace Ae := Aside0.mk (blk_kept (zk Ae) hkp (fun hs_ => (fun e_ => (Kd.R_ne Al.out Ae.out (by decide)) e_) hs_)); replace Af := Aside0.mk (blk_kept (zk Af) hkp (fun hs_ => (fun e_ => (Kd.R_ne Al.out Af.out (by decide)) e_) hs_)); replace Ag := Aside0.mk (blk_kept (zk Ag) hkp (fun hs_ => (fun e_ => (Kd.R_ne Al.out Ag.out (by decide)) e_) hs_)); replace Bc := Aside0.mk (Kd.R_mono (ok' := fun k_ => some k_ ≠ (.slice Ba Aj.length Ax : Value).ownBlock ∧ some k_ ≠ (.slice Au Ao.length As : Value).ownBlock ∧ some k_ ≠ (.slice Aq Ai.length Ap : Value).ownBlock) (Kd.R_keptB ((Kd.R_apart' Bc.out (Kd.R_typed Al.out) (by decide))) hkp (fun k_ hk_ hs_ => (hk_.2) hs_)) (fun k_ hk_ => ⟨hk_.1.1.1, hk_.1.1.2.1, hk_.1.1.2.2⟩)); replace Bp := Aside0.mk (Kd.R_mono (ok' := fun k_ => some k_ ≠ (.slice Dc Bg.length C9 : Value).ownBlock) (Kd.R_keptB ((Kd.R_apart' Bp.out (Kd.R_typed Al.out) (by decide))) hkp (fun k_ hk_ hs_ => (hk_.2) hs_)) (fun k_ hk_ => hk_.1.1)); replace Al := Aside0.mk (Kd.R_reok rfl Ep (fun k_ e_ => Al.out.1 k_ e_)); replace Cd := Aside0.mk (Kd.R_mono (ok' := fun k_ => some k_ ≠ (.slice Db Bf.length C8 : Value).ownBlock) (Kd.R_keptB (Cd.out) hkp (fun k_ hk_ hs_ => (hk_) hs_)) (fun k_ hk_ => hk_.1)); replace HB := Aside0.mk (hb); clear hb; (try clear hkp); (try clear Ep)))
      (try simp only [Act.put, zA, zB, zC])
      go_cut [105] (fun Hk wc => ∃ (kq : Nat) (Cr : Bool), Hk = .bool Cr ∧ Aside0 (laws_FnExactCutActs.j1 kq l1 a2 l3 Bh Cr l0_0 Aj Ai = some r) ∧ Aside0 (kq ≤ Bi) ∧ Aside0 (Kd.R k45 45 wc w.heap.size (fun k_ => some k_ ≠ ((.slice Au Ao.length As) : Value).ownBlock ∧ some k_ ≠ ((.slice Aq Ai.length Ap) : Value).ownBlock) (.slice Ba Aj.length Ax) Aj) ∧ Aside0 (Kd.R k45 45 wc w.heap.size (fun k_ => some k_ ≠ ((.slice Ba Aj.length Ax) : Value).ownBlock ∧ some k_ ≠ ((.slice Aq Ai.length Ap) : Value).ownBlock) (.slice Au Ao.length As) Cs) ∧ Aside0 (Kd.R k45 45 wc w.heap.size (fun k_ => some k_ ≠ ((.slice Ba Aj.length Ax) : Value).ownBlock ∧ some k_ ≠ ((.slice Au Ao.length As) : Value).ownBlock) (.slice Aq Ai.length Ap) Ai) ∧ Aside0 (wc.heap[Cv]? = some (.cells #[(.slice A0_0 l0_0.length c0_0)] 24 (0, 0))) ∧ Aside0 (wc.heap[Ce]? = some (.cells #[(.slice Ba Aj.length Ax)] 29 (0, 0))) ∧ Aside0 (wc.heap[Cb]? = some (.cells #[(.slice Au Ao.length As)] 29 (0, 0))) ∧ Aside0 (wc.heap[Br]? = some (.cells #[(.slice Aq Ai.length Ap)] 29 (0, 0))) ∧ Aside0 (Below w.heap.size w wc))
      case first =>
       have H := Gd.out
       clear Gd
       by_cases De : Fq < 0
       ·rw [if_pos De] at H
        have Cg := decide_eq_true De
        clear De
        (first | rw [Cg] | (simp only [i64_w, i32_w]; rw [Cg]) | skip)
        have H' := Aside0.mk H
        clear H
        go_wp2
        go_meet
        case rel => exact ⟨_, (true), zf, H', ⟨by have := HJ25.out; first | omega | exact Nat.le_refl _⟩, ⟨zo (Kd.R_mono Ac.out (fun _ hk => ⟨hk.1, hk.2.1⟩))⟩, ⟨zo (Kd.R_mono Ab.out (fun _ hk => ⟨hk.1, hk.2.1⟩))⟩, ⟨zo (Kd.R_mono Aa.out (fun _ hk => ⟨hk.1, hk.2.1⟩))⟩, ⟨zkf Ad⟩, ⟨zkf Ae⟩, ⟨zkf Af⟩, ⟨zkf Ag⟩, ⟨zw HB⟩⟩
       rw [if_neg De] at H
       have Cg := decide_eq_false De
       clear De
       (first | rw [Cg] | (simp only [i64_w, i32_w]; rw [Cg]) | skip)
       replace H := Option.bind_eq_some_iff.mp H
       obtain ⟨Dh, Fo, H⟩ := H
       have Iq := Aside0.mk Fo
       clear Fo
       by_cases Do : Dh = true
       ·subst Do
        rw [if_pos rfl] at H
        have H' := Aside0.mk H
        clear H
        have hnb113 := Bu.out
        have hnc113 := Bz.out
        have hnb114 := Bm.out
        have hnc114 := Bo.out
        have hnb115 := Bl.out
        have hnc115 := Bn.out
        obtain ⟨Em, D8⟩ := zc1 Ag
        have hnb117 := Bx.out
        have hnc117 := B0.out
        have hnb118 := Bw.out
        have hnc118 := Bv.out
        obtain ⟨El, D7⟩ := zc1 Ae
        go_wp2_with (first | (go_at_call 16; (with_reducible refine (laws_eqDisk.calls Bi _ _ Ai _ _ Aj true _ ?side1 ?side2 ?side3 ?side4 Iq.out).mono ?_); (case side1 => exact zI (Kd.R_reads' Aa.out).2.2); (case side2 => exact (Kd.R_reads' Aa.out).2.1); (case side3 => exact zI (Kd.R_reads' Ac.out).2.2); (case side4 => exact (Kd.R_reads' Ac.out).2.1); rintro e w120 ⟨rfl, hb⟩; replace Am := zy Am hb; replace Al := zy Al hb; replace Ac := zy Ac hb; replace Ab := zy Ab hb; replace Aa := zy Aa hb; replace Bc := zy Bc hb; replace Bp := zy Bp hb; replace Cd := zy Cd hb; replace Ad := zb Ad hb; replace Ae := zb Ae hb; replace Af := zb Af hb; replace Ag := zb Ag hb; replace HB := zs HB hb; clear hb))
        go_meet
        case rel => exact ⟨_, ((Cy != Bh)), zf, H', ⟨by have := HJ25.out; first | omega | exact Nat.le_refl _⟩, ⟨zo (Kd.R_mono Ac.out (fun _ hk => ⟨hk.1, hk.2.1⟩))⟩, ⟨zo (Kd.R_mono Ab.out (fun _ hk => ⟨hk.1, hk.2.1⟩))⟩, ⟨zo (Kd.R_mono Aa.out (fun _ hk => ⟨hk.1, hk.2.1⟩))⟩, ⟨zkf Ad⟩, ⟨zkf Ae⟩, ⟨zkf Af⟩, ⟨zkf Ag⟩, ⟨zw HB⟩⟩
       replace Do := Bool.eq_false_iff.mpr Do
       subst Do
       rw [if_neg (show ¬ (false = true) by decide)] at H
       exact absurd (H.trans (congrArg some HR_.out)) laws_FnExactCutActs.j1_t
      case rest =>
       clear Gd
       try clear c1
       try clear c2
       try clear p2
       try clear c3
       try clear c4
       try clear c5
       try clear E8
       try clear E7
       try clear c6
       try clear c7
       try clear c8
       try clear E6
       try clear Jp
       try clear Jg
       try clear Jf
       try clear Fa
       try clear Dm
       try clear Je
       try clear Jd
       try clear Jc
       try clear Jo
       try clear Jn
       try clear Jm
       try clear Jb
       try clear Ja
       try clear I9
       try clear Jl
       try clear Jk
       try clear I8
       try clear I7
       try clear I6
       try clear I5
       try clear I4
       try clear I3
       try clear I2
       try clear F9
       try clear I1
       try clear I0
       try clear Iz
       try clear Iy
       try clear Ix
       try clear Iw
       try clear Iv
       try clear Iu
       try clear Is
       try clear Ir
       try clear Gk
       try clear Gj
       try clear Gi
       try clear Gh
       try clear Ie
       try clear Id
       try clear Ic
       try clear De
       try clear Cg
       try clear Do
       try clear Ib
       try clear Ia
       try clear H9
       try clear H8
       try clear H7
       try clear H6
       try clear H5
       try clear H4
       try clear H2
       try clear H1
       try clear Eo
       try clear En
       try clear Em
       try clear El
       try clear F6
       try clear F5
       try clear Ek
       try clear Ej
       try clear Ei
       try clear Eh
       try clear Eg
       try clear Ef
       try clear Ee
       try clear Ed
       try clear Ec
       try clear Eb
       try clear Fe
       try clear Fd
       try clear Ea
       try clear D9
       try clear D8
       try clear D7
       try clear Fy
       try clear Fx
       try clear D6
       try clear D5
       try clear D4
       try clear D3
       try clear D2
       try clear D1
       try clear D0
       try clear Dz
       try clear Dy
       try clear Dx
       try clear Fc
       try clear Fb
       try clear p2
       obtain ⟨kq, Cr, rfl, HA, HJ92, Ac, Ab, Aa, Ad, Ae, Af, Ag, HB⟩ := hcut
       have Ah := (Kd.R_reads' Ab.out).1
       rw [Ah] at Ab
       (try simp only [Ah])
       (try simp only [Ah] at Ad)
       (try simp only [Ah] at Ae)
       (try simp only [Ah] at Af)
       (try simp only [Ah] at Ag)
       (try simp only [Ah] at Ac)
       (try simp only [Ah] at Aa)
       cases kq with
       | zero => exact absurd HA.out (by simp [laws_FnExactCutActs.j1])
       | succ B1 =>
        have H := HA.out
        clear HA
        simp only [laws_FnExactCutActs.j1] at H
        by_cases Ex : Cr = true
        ·subst Ex
         rw [if_pos rfl] at H
         obtain rfl := Option.some.inj H
         exact absurd HR_.out (by decide)
        replace Ex := Bool.eq_false_iff.mpr Ex
        subst Ex
        rw [if_neg (show ¬ (false = true) by decide)] at H
        replace H := Option.bind_eq_some_iff.mp H
        obtain ⟨⟨B8, Ci⟩, Fn, H⟩ := H
        replace H : ((laws_heldDisk.f B1 Ci 1).bind fun Cx => (if Cx < 0 then (some false) else (if Cx = B8 then ((laws_toDisk.f B1 l0_0).bind fun Dg => ((laws_toActS.f B1 l1).bind fun Dr => ((laws_toIntS.f B1 l3).bind fun Dq => ((impl_CutActs.f B1 Dg Dr a2 Dq).bind fun Ff => ((laws_eqDisk.f B1 Ff.1 Aj).bind fun Dp => (if Dp = true then (laws_FnExactCutActs.j2 B1 B8 (Ff.2 != Bh) Ci) else (laws_FnExactCutActs.j2 B1 B8 true Ci))))))) else (some false)))) = some r := H
        have Ip := Aside0.mk Fn
        clear Fn
        replace H := Option.bind_eq_some_iff.mp H
        obtain ⟨Cx, Fm, H⟩ := H
        have Io := Aside0.mk Fm
        clear Fm
        by_cases Dl : Cx < 0
        ·rw [if_pos Dl] at H
         have Ew := decide_eq_true Dl
         clear Dl
         obtain rfl := Option.some.inj H
         exact absurd HR_.out (by decide)
        rw [if_neg Dl] at H
        have Ew := decide_eq_false Dl
        clear Dl
        by_cases Dd : Cx = B8
        ·rw [if_pos Dd] at H
         have Eu : (Cx == B8) = true := beq_iff_eq.mpr Dd
         have Et : (Cx != B8) = false := bne_eq_false_iff_eq.mpr Dd
         clear Dd
         replace H := Option.bind_eq_some_iff.mp H
         obtain ⟨Dg, Fl, H⟩ := H
         have In := Aside0.mk Fl
         clear Fl
         replace H := Option.bind_eq_some_iff.mp H
         obtain ⟨Dr, Fk, H⟩ := H
         have Im := Aside0.mk Fk
         clear Fk
         replace H := Option.bind_eq_some_iff.mp H
         obtain ⟨Dq, Fj, H⟩ := H
         have Il := Aside0.mk Fj
         clear Fj
         replace H := Option.bind_eq_some_iff.mp H
         obtain ⟨⟨Bq, Fp⟩, Fi, H⟩ := H
         replace H : ((laws_eqDisk.f B1 Bq Aj).bind fun Dp => (if Dp = true then (laws_FnExactCutActs.j2 B1 B8 (Fp != Bh) Ci) else (laws_FnExactCutActs.j2 B1 B8 true Ci))) = some r := H
         have Ik := Aside0.mk Fi
         clear Fi
         have Ez := Aside0.mk H
         clear H
         have hnb146 := Bu.out
         have hnc146 := Bz.out
         have hnb147 := Bm.out
         have hnc147 := Bo.out
         have hnb148 := Bl.out
         have hnc148 := Bn.out
         obtain ⟨F4, Fw⟩ := zc1 Ag
         go_upto_region 38 with (first | ((with_reducible refine gate_callee (f := 31) rfl ?_); refine zG (some 108) Try.func31 #[.agg #[.slice Aq Ai.length Ap], .int .i64 1] ?_; (with_reducible refine (laws_markDisk.calls B1 (fun k_ => some k_ = (.slice Aq Ai.length Ap : Value).ownBlock) (.slice Aq Ai.length Ap) Ai 1 B8 Ci w _ ?side1 ?side2 Ip.out).mono ?_); (case side1 => exact zw HB); (case side2 => exact Kd.R_tight rfl Aa.out); rintro e w150 ⟨rfl, Ep, hb, hkp⟩; refine ⟨_, rfl, ?_⟩; replace Ac := Aside0.mk (Kd.R_mono (ok' := fun k_ => some k_ ≠ (.slice Au Cs.length As : Value).ownBlock ∧ some k_ ≠ (.slice Aq Ai.length Ap : Value).ownBlock) (Kd.R_keptB (Ac.out) hkp (fun k_ hk_ hs_ => (hk_.2) hs_)) (fun k_ hk_ => ⟨hk_.1.1, hk_.1.2⟩)); replace Ab := Aside0.mk (Kd.R_mono (ok' := fun k_ => some k_ ≠ (.slice Ba Aj.length Ax : Value).ownBlock ∧ some k_ ≠ (.slice Aq Ai.length Ap : Value).ownBlock) (Kd.R_keptB (Ab.out) hkp (fun k_ hk_ hs_ => (hk_.2) hs_)) (fun k_ hk_ => ⟨hk_.1.1, hk_.1.2⟩)); replace Ad := Aside0.mk (blk_kept (zk Ad) hkp (fun hs_ => (fun e_ => (Kd.R_ne Aa.out Ad.out (by decide)) e_) hs_)); replace Ae := Aside0.mk (blk_kept (zk Ae) hkp (fun hs_ => (fun e_ => (Kd.R_ne Aa.out Ae.out (by decide)) e_) hs_)); replace Af := Aside0.mk (blk_kept (zk Af) hkp (fun hs_ => (fun e_ => (Kd.R_ne Aa.out Af.out (by decide)) e_) hs_)); replace Ag := Aside0.mk (blk_kept (zk Ag) hkp (fun hs_ => (fun e_ => (Kd.R_ne Aa.out Ag.out (by decide)) e_) hs_)); replace Aa := Aside0.mk (Kd.R_reok rfl Ep (fun k_ e_ => Aa.out.1 k_ e_)); replace HB := Aside0.mk (hb); clear hb; (try clear hkp); (try clear Ep); obtain ⟨F3, Fv⟩ := zc1 Ag) | ((with_reducible refine gate_callee (f := 33) rfl ?_); refine goesL_ (some 111) rfl rfl Try.func33 (by kernel_rfl) rfl #[.agg #[.slice Aq Ci.length Ap], .int .i64 1] rfl (by (try simp only [List.map_toArray, List.map_cons, List.map_nil]); first | done | (rw [show Ci.length = Ai.length from (Kd.R_reads' Aa.out).1.symm] <;> rfl) | rfl | (simp only [List.length_drop, List.length_take]; rfl)) ?_; (with_reducible refine (laws_heldDisk.calls B1 _ _ Ci 1 Cx _ ?side1 ?side2 Io.out).mono ?_); (case side1 => exact zI (Kd.R_reads' Aa.out).2.2); (case side2 => rw [show Ci.length = Ai.length from (Kd.R_reads' Aa.out).1.symm]; exact (Kd.R_reads' Aa.out).2.1); rintro e w152 ⟨rfl, hb⟩; refine ⟨_, rfl, ?_⟩; replace Ac := zy Ac hb; replace Ab := zy Ab hb; replace Aa := zy Aa hb; replace Ad := zb Ad hb; replace Ae := zb Ae hb; replace Af := zb Af hb; replace Ag := zb Ag hb; replace HB := zs HB hb; clear hb; have hnb153 := B0.out; have hnc153 := Bx.out; have hnb154 := Cn.out; have hnc154 := Cm.out; obtain ⟨F2, Fu⟩ := zc1 Ad) | ((with_reducible refine gate_callee (f := 14) rfl ?_); refine zG (some 119) Try.func14 #[.agg #[.slice A0_0 l0_0.length c0_0]] ?_; (with_reducible refine (laws_toDisk.calls B1 _ _ l0_0 Dg _ ?side1 ?side2 In.out).mono ?_); (case side1 => exact zI (Kd.C_below HR0_0.out HB.out)); (case side2 => exact Cw.out); rintro e w156 ⟨v445, rfl, Bb, hb⟩; refine ⟨_, rfl, ?_⟩; have Bs := Aside0.mk (Kd.R_lower (Kd.R_new' (Kd.R_new' (Kd.R_new' Bb (Kd.R_lt (zo Ac.out))) (Kd.R_lt (zo Ab.out))) (Kd.R_lt (zo Aa.out))) (below_size (zw HB))); replace Ac := Aside0.mk (Kd.R_elder' (zo Ac.out) (Kd.R_base Bb) hb); replace Ab := Aside0.mk (Kd.R_elder' (zo Ab.out) (Kd.R_base Bb) hb); replace Aa := Aside0.mk (Kd.R_elder' (zo Aa.out) (Kd.R_base Bb) hb); replace Ad := zb Ad hb; replace Ae := zb Ae hb; replace Af := zb Af hb; replace Ag := zb Ag hb; replace HB := zs HB hb; clear Bb hb) | ((with_reducible refine gate_callee (f := 40) rfl ?_); refine zG (some 121) Try.func40 #[.slice A1 l1.length c1] ?_; (with_reducible refine (laws_toActS.calls B1 _ _ l1 Dr _ ?side1 ?side2 Im.out).mono ?_); (case side1 => exact zI (Kd.C_below HR1.out HB.out)); (case side2 => exact Gl.out); rintro e w157 ⟨v448, rfl, Bb, hb⟩; refine ⟨_, rfl, ?_⟩; replace Ac := zy Ac hb; replace Ab := zy Ab hb; replace Aa := zy Aa hb; replace Bs := zy Bs hb; have Cc := Aside0.mk (Kd.R_lower Bb (below_size (zw HB))); replace Ad := zb Ad hb; replace Ae := zb Ae hb; replace Af := zb Af hb; replace Ag := zb Ag hb; replace HB := zs HB hb; clear Bb hb) | ((with_reducible refine gate_callee (f := 29) rfl ?_); refine zG (some 124) Try.func29 #[.slice A3 l3.length c3] ?_; (with_reducible refine (laws_toIntS.calls B1 _ _ l3 Dq _ ?side1 ?side2 Il.out).mono ?_); (case side1 => exact zI (Kd.C_below HR3.out HB.out)); (case side2 => exact Hi.out); rintro e w158 ⟨v451, rfl, Bb, hb⟩; refine ⟨_, rfl, ?_⟩; replace Ac := zy Ac hb; replace Ab := zy Ab hb; replace Aa := zy Aa hb; replace Bs := zy Bs hb; replace Cc := zy Cc hb; have Cj := Aside0.mk (Kd.R_lower Bb (below_size (zw HB))); replace Ad := zb Ad hb; replace Ae := zb Ae hb; replace Af := zb Af hb; replace Ag := zb Ag hb; replace HB := zs HB hb; clear Bb hb; obtain ⟨E2, Eq, Gs⟩ := Kd.R_slice Bs.out; subst Gs; obtain ⟨Gy, Gv, Gr⟩ := Kd.R_slice Cc.out; subst Gr; obtain ⟨Gx, Gu, Gq⟩ := Kd.R_slice Cj.out; subst Gq) | ((with_reducible refine gate_callee (f := 45) rfl ?_); refine zG (some 125) Try.func45 #[.agg #[.slice E2 Dg.length Eq], .slice Gy Dr.length Gv, .int .i64 a2, .slice Gx Dq.length Gu] ?_; (with_reducible refine (impl_CutActs.calls B1 _ _ Dg _ _ Dr a2 _ _ Dq Bq Fp _ ?side1 ?side2 ?side3 ?side4 ?side5 ?side6 Ik.out).mono ?_); (case side1 => exact zI (Kd.R_reads' Bs.out).2.2); (case side2 => exact (Kd.R_reads' Bs.out).2.1); (case side3 => exact zI (Kd.R_reads' Cc.out).2.2); (case side4 => exact (Kd.R_reads' Cc.out).2.1); (case side5 => exact zI (Kd.R_reads' Cj.out).2.2); (case side6 => exact (Kd.R_reads' Cj.out).2.1); rintro e w162 ⟨v454, rfl, Bb, hb⟩; refine ⟨_, rfl, ?_⟩; replace Cc := zy Cc hb; replace Cj := zy Cj hb; have Cp := Aside0.mk (Kd.R_lower (Kd.R_new' (Kd.R_new' (Kd.R_new' (Kd.R_new' Bb (Kd.R_lt (zo Ac.out))) (Kd.R_lt (zo Ab.out))) (Kd.R_lt (zo Aa.out))) (Kd.R_lt (zo Bs.out))) (below_size (zw HB))); replace Ac := Aside0.mk (Kd.R_elder' (zo Ac.out) (Kd.R_base Bb) hb); replace Ab := Aside0.mk (Kd.R_elder' (zo Ab.out) (Kd.R_base Bb) hb); replace Aa := Aside0.mk (Kd.R_elder' (zo Aa.out) (Kd.R_base Bb) hb); replace Bs := Aside0.mk (Kd.R_elder' (zo Bs.out) (Kd.R_base Bb) hb); replace Ad := zb Ad hb; replace Ae := zb Ae hb; replace Af := zb Af hb; replace Ag := zb Ag hb; replace HB := zs HB hb; clear Bb hb) | ((with_reducible refine gate_dst (N := 20) rfl ?_); refine zx (N := 20) (cs := #[.slice none 0 0]) (t := 29) ?_; intro Ca hg w163 hbox hb; replace Ac := zy Ac hb; replace Ab := zy Ab hb; replace Aa := zy Aa hb; replace Bs := zy Bs hb; replace Cc := zy Cc hb; replace Cj := zy Cj hb; replace Cp := zy Cp hb; have Be := Aside0.mk (hbox); have GW457 := zg HB hg; have GE457 := zg HB hg; replace HB := zs HB hb; have C5 := zl Ad hg; have C2 := zr Ad hg; replace Ad := zb Ad hb; have C4 := zl Ae hg; have C1 := zr Ae hg; replace Ae := zb Ae hb; have C3 := zl Af hg; have C0 := zr Af hg; replace Af := zb Af hb; have Cl := zl Ag hg; have Ck := zr Ag hg; replace Ag := zb Ag hb; clear hb hbox hg; obtain ⟨Bk, Bd, Gp⟩ := Kd.R_slice Cp.out; subst Gp; have hnb165 := C2.out; have hnc165 := C5.out; have hnb166 := C1.out; have hnc166 := C4.out; have hnb167 := C0.out; have hnc167 := C3.out; have hnb168 := Ck.out; have hnc168 := Cl.out; obtain ⟨F1, Ft⟩ := zc1 Be))
         (try simp only [Act.put, zA, zB, zC])
         go_cut [136] (fun Hj wc => ∃ (kq : Nat) (Ch : Bool), Hj = .bool Ch ∧ Aside0 (laws_FnExactCutActs.j2 kq B8 Ch Ci = some r) ∧ Aside0 (kq ≤ B1) ∧ Aside0 (Kd.R k45 45 wc w.heap.size (fun k_ => some k_ ≠ ((.slice Au Cs.length As) : Value).ownBlock ∧ some k_ ≠ ((.slice Aq Ai.length Ap) : Value).ownBlock ∧ some k_ ≠ ((.slice Bk Bq.length Bd) : Value).ownBlock) (.slice Ba Aj.length Ax) Aj) ∧ Aside0 (Kd.R k45 45 wc w.heap.size (fun k_ => some k_ ≠ ((.slice Ba Aj.length Ax) : Value).ownBlock ∧ some k_ ≠ ((.slice Aq Ai.length Ap) : Value).ownBlock ∧ some k_ ≠ ((.slice Bk Bq.length Bd) : Value).ownBlock) (.slice Au Cs.length As) Cs) ∧ Aside0 (Kd.R k45 45 wc w.heap.size (fun k_ => some k_ ≠ ((.slice Ba Aj.length Ax) : Value).ownBlock ∧ some k_ ≠ ((.slice Au Cs.length As) : Value).ownBlock ∧ some k_ ≠ ((.slice Bk Bq.length Bd) : Value).ownBlock) (.slice Aq Ai.length Ap) Ci) ∧ Aside0 (Kd.R k45 45 wc w.heap.size (fun k_ => some k_ ≠ ((.slice Ba Aj.length Ax) : Value).ownBlock ∧ some k_ ≠ ((.slice Au Cs.length As) : Value).ownBlock ∧ some k_ ≠ ((.slice Aq Ai.length Ap) : Value).ownBlock) (.slice Bk Bq.length Bd) Bq) ∧ Aside0 (wc.heap[Cv]? = some (.cells #[(.slice A0_0 l0_0.length c0_0)] 24 (0, 0))) ∧ Aside0 (wc.heap[Ce]? = some (.cells #[(.slice Ba Aj.length Ax)] 29 (0, 0))) ∧ Aside0 (wc.heap[Cb]? = some (.cells #[(.slice Au Cs.length As)] 29 (0, 0))) ∧ Aside0 (wc.heap[Br]? = some (.cells #[(.slice Aq Ai.length Ap)] 29 (0, 0))) ∧ Aside0 (wc.heap[Ca]? = some (.cells #[(.slice Bk Bq.length Bd)] 29 (0, 0))) ∧ Aside0 (Below w.heap.size w wc))
         case first =>
          have H := Ez.out
          clear Ez
          replace H := Option.bind_eq_some_iff.mp H
          obtain ⟨Dp, Fh, H⟩ := H
          have Ij := Aside0.mk Fh
          clear Fh
          by_cases Es : Dp = true
          ·subst Es
           rw [if_pos rfl] at H
           have H' := Aside0.mk H
           clear H
           have hnb172 := C2.out
           have hnc172 := C5.out
           have hnb173 := C1.out
           have hnc173 := C4.out
           have hnb174 := C0.out
           have hnc174 := C3.out
           have hnb175 := Ck.out
           have hnc175 := Cl.out
           obtain ⟨F0, Fs⟩ := zc1 Be
           have hnb177 := Bx.out
           have hnc177 := B0.out
           have hnb178 := Bw.out
           have hnc178 := Bv.out
           have hnb179 := Bo.out
           have hnc179 := Bm.out
           obtain ⟨Fz, Fr⟩ := zc1 Ae
           go_wp2_with (first | ((with_reducible refine gate_callee (f := 16) rfl ?_); refine zG (some 130) Try.func16 #[.agg #[.slice Bk Bq.length Bd], .agg #[.slice Ba Aj.length Ax]] ?_; (with_reducible refine (laws_eqDisk.calls B1 _ _ Bq _ _ Aj true _ ?side1 ?side2 ?side3 ?side4 Ij.out).mono ?_); (case side1 => refine (Kd.R_reads' (e := 45) (base := w.heap.size) (ok := fun k_ => ((((True ∧ some k_ ≠ (.slice Ba Aj.length Ax : Value).ownBlock) ∧ some k_ ≠ (.slice Au Cs.length As : Value).ownBlock) ∧ some k_ ≠ (.slice Aq Ai.length Ap : Value).ownBlock) ∧ some k_ ≠ (.slice E2 Dg.length Eq : Value).ownBlock)) (n := Bq.length) (c := Bd) ?_).2.2; exact (zo ((Kd.R_mono (Kd.R_far (p := ⟨Ca, 0, none⟩) (Kd.R_types Cp.out Be.out (by decide)) (fun _ hk => hk.2) (.slice Bk Bq.length Bd)) (fun _ h_ => h_.1))))); (case side2 => exact (Kd.R_reads' Cp.out).2.1); (case side3 => refine (Kd.R_reads' (e := 45) (base := w.heap.size) (ok := fun k_ => (((some k_ ≠ (.slice Au Cs.length As : Value).ownBlock ∧ some k_ ≠ (.slice Aq Ai.length Ap : Value).ownBlock) ∧ some k_ ≠ (.slice E2 Dg.length Eq : Value).ownBlock) ∧ some k_ ≠ (.slice Bk Bq.length Bd : Value).ownBlock)) (n := Aj.length) (c := Ax) ?_).2.2; exact (zo ((Kd.R_mono (Kd.R_far (p := ⟨Ca, 0, none⟩) (Kd.R_types Ac.out Be.out (by decide)) (fun _ hk => hk.2) (.slice Bk Bq.length Bd)) (fun _ h_ => h_.1))))); (case side4 => exact (Kd.R_reads' Ac.out).2.1); rintro e w181 ⟨rfl, hb⟩; refine ⟨_, rfl, ?_⟩; replace Ac := Aside0.mk (Kd.R_below (zo ((Kd.R_mono (Kd.R_far (p := ⟨Ca, 0, none⟩) (Kd.R_types Ac.out Be.out (by decide)) (fun _ hk => hk.2) (.slice Bk Bq.length Bd)) (fun _ h_ => h_.1)))) hb); replace Ab := Aside0.mk (Kd.R_below (zo ((Kd.R_mono (Kd.R_far (p := ⟨Ca, 0, none⟩) (Kd.R_types Ab.out Be.out (by decide)) (fun _ hk => hk.2) (.slice Bk Bq.length Bd)) (fun _ h_ => h_.1)))) hb); replace Aa := Aside0.mk (Kd.R_below (zo ((Kd.R_mono (Kd.R_far (p := ⟨Ca, 0, none⟩) (Kd.R_types Aa.out Be.out (by decide)) (fun _ hk => hk.2) (.slice Bk Bq.length Bd)) (fun _ h_ => h_.1)))) hb); replace Bs := Aside0.mk (Kd.R_below (zo ((Kd.R_mono (Kd.R_far (p := ⟨Ca, 0, none⟩) (Kd.R_types Bs.out Be.out (by decide)) (fun _ hk => hk.2) (.slice Bk Bq.length Bd)) (fun _ h_ => h_.1)))) hb); replace Cc := Aside0.mk (Kd.R_below (zo ((Kd.R_mono (Kd.R_far (p := ⟨Ca, 0, none⟩) (Kd.R_types Cc.out Be.out (by decide)) (fun _ hk => hk.2) (.slice Bk Bq.length Bd)) (fun _ h_ => h_.1)))) hb); replace Cj := Aside0.mk (Kd.R_below (zo ((Kd.R_mono (Kd.R_far (p := ⟨Ca, 0, none⟩) (Kd.R_types Cj.out Be.out (by decide)) (fun _ hk => hk.2) (.slice Bk Bq.length Bd)) (fun _ h_ => h_.1)))) hb); replace Cp := Aside0.mk (Kd.R_below (zo ((Kd.R_mono (Kd.R_far (p := ⟨Ca, 0, none⟩) (Kd.R_types Cp.out Be.out (by decide)) (fun _ hk => hk.2) (.slice Bk Bq.length Bd)) (fun _ h_ => h_.1)))) hb); replace Ad := zbf Ad hb; replace Ae := zbf Ae hb; replace Af := zbf Af hb; replace Ag := zbf Ag hb; replace Be := Aside0.mk (blk_below (g := Ca) (o := .cells #[.slice Bk Bq.length Bd] 29 (0, 0)) (zj Be) hb); replace HB := zs HB hb; clear hb))
           go_meet
           case rel => exact ⟨_, ((Fp != Bh)), zf, H', ⟨by have := HJ25.out; have := HJ92.out; first | omega | exact Nat.le_refl _⟩, ⟨by (try simp only [Ah]); (with_reducible repeat (first | apply Kd.R_alloc | apply Kd.R_drewN | apply Kd.R_drew)); exact Kd.R_mono Ac.out (fun _ hk => ⟨hk.1.1.1, ⟨hk.1.1.2, hk.2⟩⟩)⟩, ⟨by (try simp only [Ah]); (with_reducible repeat (first | apply Kd.R_alloc | apply Kd.R_drewN | apply Kd.R_drew)); exact Kd.R_mono Ab.out (fun _ hk => ⟨hk.1.1.1, ⟨hk.1.1.2, hk.2⟩⟩)⟩, ⟨by (try simp only [Ah]); (with_reducible repeat (first | apply Kd.R_alloc | apply Kd.R_drewN | apply Kd.R_drew)); exact Kd.R_mono Aa.out (fun _ hk => ⟨hk.1.1.1, ⟨hk.1.1.2, hk.2⟩⟩)⟩, ⟨by (try simp only [Ah]); (with_reducible repeat (first | apply Kd.R_alloc | apply Kd.R_drewN | apply Kd.R_drew)); exact Kd.R_mono Cp.out (fun _ hk => ⟨hk.1.1.1.2, ⟨hk.1.1.2, hk.1.2⟩⟩)⟩, ⟨by (try simp only [Ah]); (with_reducible repeat (first | refine blk_drewN ?_ _ | refine blk_drew ?_ | refine blk_alloc ?_ _)); exact Ad.out⟩, ⟨by (try simp only [Ah]); (with_reducible repeat (first | refine blk_drewN ?_ _ | refine blk_drew ?_ | refine blk_alloc ?_ _)); exact Ae.out⟩, ⟨by (try simp only [Ah]); (with_reducible repeat (first | refine blk_drewN ?_ _ | refine blk_drew ?_ | refine blk_alloc ?_ _)); exact Af.out⟩, ⟨by (try simp only [Ah]); (with_reducible repeat (first | refine blk_drewN ?_ _ | refine blk_drew ?_ | refine blk_alloc ?_ _)); exact Ag.out⟩, ⟨by (try simp only [Ah]); (with_reducible repeat (first | refine blk_drewN ?_ _ | refine blk_drew ?_ | refine blk_alloc ?_ _)); exact Be.out⟩, ⟨zw HB⟩⟩
          replace Es := Bool.eq_false_iff.mpr Es
          subst Es
          rw [if_neg (show ¬ (false = true) by decide)] at H
          exact absurd (H.trans (congrArg some HR_.out)) laws_FnExactCutActs.j2_t
         case rest =>
          clear Ez
          try clear c1
          try clear c2
          try clear p2
          try clear c3
          try clear c4
          try clear c5
          try clear E8
          try clear E7
          try clear c6
          try clear c7
          try clear c8
          try clear E6
          try clear Jp
          try clear Jg
          try clear Jf
          try clear Fa
          try clear Dm
          try clear Je
          try clear c15
          try clear Jd
          try clear c17
          try clear c18
          try clear Jc
          try clear Jo
          try clear Jn
          try clear Jm
          try clear c33
          try clear Jb
          try clear Ja
          try clear I9
          try clear Jl
          try clear Jk
          try clear I8
          try clear I7
          try clear I6
          try clear I5
          try clear I4
          try clear I3
          try clear I2
          try clear F9
          try clear I1
          try clear I0
          try clear Iz
          try clear Iy
          try clear Ix
          try clear Iw
          try clear Iv
          try clear Iu
          try clear Is
          try clear Ir
          try clear Gk
          try clear Gj
          try clear Gi
          try clear Gh
          try clear Ie
          try clear Id
          try clear Ic
          try clear De
          try clear Cg
          try clear Do
          try clear Ib
          try clear Ia
          try clear H9
          try clear H8
          try clear H7
          try clear H6
          try clear H5
          try clear H4
          try clear H2
          try clear H1
          try clear Ex
          try clear Dl
          try clear Ew
          try clear c133
          try clear c134
          try clear c135
          try clear Dd
          try clear Eu
          try clear Et
          try clear c146
          try clear c147
          try clear c148
          try clear c153
          try clear c154
          try clear c165
          try clear c166
          try clear c167
          try clear c168
          try clear Es
          try clear c172
          try clear c173
          try clear c174
          try clear c175
          try clear c177
          try clear c178
          try clear c179
          try clear c182
          try clear c183
          try clear c184
          try clear c185
          try clear c187
          try clear c188
          try clear c189
          try clear Eo
          try clear En
          try clear Em
          try clear El
          try clear F6
          try clear F5
          try clear m136_0
          try clear m138_0
          try clear F4
          try clear F3
          try clear F2
          try clear Ek
          try clear F1
          try clear F0
          try clear Fz
          try clear m186_0
          try clear m190_0
          try clear Ej
          try clear Ei
          try clear Eh
          try clear Eg
          try clear Ef
          try clear Ee
          try clear Ed
          try clear Ec
          try clear Eb
          try clear Fe
          try clear Fd
          try clear Ea
          try clear D9
          try clear D8
          try clear D7
          try clear Fy
          try clear Fx
          try clear n136_0
          try clear n138_0
          try clear Fw
          try clear Fv
          try clear Fu
          try clear D6
          try clear Ft
          try clear Fs
          try clear Fr
          try clear n186_0
          try clear n190_0
          try clear D5
          try clear D4
          try clear D3
          try clear D2
          try clear D1
          try clear D0
          try clear Dz
          try clear Dy
          try clear Dx
          try clear Fc
          try clear Fb
          try clear p2
          obtain ⟨kq, Ch, rfl, HA, HJ144, Ac, Ab, Aa, Co, Ad, Ae, Af, Ag, Be, HB⟩ := hcut
          have Ak := (Kd.R_reads' Aa.out).1
          rw [Ak] at Aa
          (try simp only [Ak])
          (try simp only [Ak] at Ad)
          (try simp only [Ak] at Ae)
          (try simp only [Ak] at Af)
          (try simp only [Ak] at Ag)
          (try simp only [Ak] at Be)
          (try simp only [Ak] at Ac)
          (try simp only [Ak] at Ab)
          (try simp only [Ak] at Co)
          cases kq with
          | zero => exact absurd HA.out (by simp [laws_FnExactCutActs.j2])
          | succ Gm =>
           have H := HA.out
           clear HA
           simp only [laws_FnExactCutActs.j2] at H
           by_cases E9 : Ch = true
           ·subst E9
            rw [if_pos rfl] at H
            obtain rfl := Option.some.inj H
            exact absurd HR_.out (by decide)
           replace E9 := Bool.eq_false_iff.mpr E9
           subst E9
           rw [if_neg (show ¬ (false = true) by decide)] at H
           replace H := Option.bind_eq_some_iff.mp H
           obtain ⟨Df, Fg, H⟩ := H
           have Ii := Aside0.mk Fg
           clear Fg
           by_cases Dn : Df < 0
           ·rw [if_pos Dn] at H
            have Gc := decide_eq_true Dn
            clear Dn
            obtain rfl := Option.some.inj H
            exact absurd HR_.out (by decide)
           rw [if_neg Dn] at H
           have Gc := decide_eq_false Dn
           clear Dn
           by_cases Dk : Df = B8
           ·rw [if_pos Dk] at H
            have Gb : (Df == B8) = true := beq_iff_eq.mpr Dk
            have Ga : (Df != B8) = false := bne_eq_false_iff_eq.mpr Dk
            clear Dk
            obtain rfl := Option.some.inj H
            have hnb202 := Bu.out
            have hnc202 := Bz.out
            have hnb203 := Bm.out
            have hnc203 := Bo.out
            have hnb204 := Bl.out
            have hnc204 := Bn.out
            have hnb205 := Cl.out
            have hnc205 := Ck.out
            obtain ⟨_, _⟩ := zc1 Ag
            go_wp2_with (first | ((with_reducible refine gate_callee (f := 33) rfl ?_); refine zG (some 139) Try.func33 #[.agg #[.slice Aq Ci.length Ap], .int .i64 1] ?_; (with_reducible refine (laws_heldDisk.calls Gm _ _ Ci 1 Df _ ?side1 ?side2 Ii.out).mono ?_); (case side1 => exact zI (Kd.R_reads' Aa.out).2.2); (case side2 => exact (Kd.R_reads' Aa.out).2.1); rintro e w207 ⟨rfl, hb⟩; refine ⟨_, rfl, ?_⟩; replace Ac := zy Ac hb; replace Ab := zy Ab hb; replace Aa := zy Aa hb; replace Co := zy Co hb; replace Ad := zb Ad hb; replace Ae := zb Ae hb; replace Af := zb Af hb; replace Ag := zb Ag hb; replace Be := zb Be hb; replace HB := zs HB hb; clear hb))
            go_ret
            exact ⟨ze, zw HB⟩
           rw [if_neg Dk] at H
           have Gb : (Df == B8) = false := beq_eq_false_iff_ne.mpr Dk
           have Ga : (Df != B8) = true := bne_iff_ne.mpr Dk
           obtain rfl := Option.some.inj H
           exact absurd HR_.out (by decide)
        rw [if_neg Dd] at H
        have Eu : (Cx == B8) = false := beq_eq_false_iff_ne.mpr Dd
        have Et : (Cx != B8) = true := bne_iff_ne.mpr Dd
        obtain rfl := Option.some.inj H
        exact absurd HR_.out (by decide)
     replace Gh := Bool.eq_false_iff.mpr Gh
     subst Gh
     rw [if_neg (show ¬ (false = true) by decide)] at H
     obtain rfl := Option.some.inj H
     exact absurd HR_.out (by decide)
    replace Gi := Bool.eq_false_iff.mpr Gi
    subst Gi
    rw [if_neg (show ¬ (false = true) by decide)] at H
    obtain rfl := Option.some.inj H
    exact absurd HR_.out (by decide)
   replace Gj := Bool.eq_false_iff.mpr Gj
   subst Gj
   rw [if_neg (show ¬ (false = true) by decide)] at H
   obtain rfl := Option.some.inj H
   exact absurd HR_.out (by decide)

end Go.Proofs.Ytdiecogmaiglaaa.PFnExactCutActs
