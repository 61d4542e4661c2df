import Derived.Test.YthngecooaddddaaDoorQFnSetsToldx0
import Derived.Test.YthngecooaddddaaDoorQFnSetsToldx1
import Derived.Test.YthngecooaddddaaDoorQFnSetsToldx2
import Derived.Test.YthngecooaddddaaDoorQFnSetsToldx3
import Derived.Test.YthngecooaddddaaDoorQFnSetsToldx4
import Derived.Test.YthngecooaddddaaDoorQFnSetsToldx5
import Derived.Test.YthngecooaddddaaDoorQFnSetsToldx9
namespace Go.Proofs.YthngecooaddddaaDoor.PFnSetsTold
open Go.RowKit Go.Proofs.YthngecooaddddaaDoorW.PrintWords Go.Proofs.YthngecooaddddaaDoorW.PrintLast Go.Proofs.YthngecooaddddaaDoorW.PrintMore
attribute [local go_sem] max2_int min2_int max_two min_two max_three min_three max_four min_four   -- for this text's walks alone
set_option linter.unusedVariables false
set_option linter.unusedSimpArgs false

attribute [local go_sem high] eqA40
/-! ### spec_ReadSet: function 18 -/
mutual
def spec_ReadSet.l0 : Nat → ByteArray → Int → List (S40) → List Bool → Int → Int → Option ((List (S40)) × Bool)
 | 0, _, _, _, _, _, _ => none
 | k + 1, x0, x1, x6, x7, x8, x9 => if x9 ≤ (x0.size : Int) then (if x9 < (x0.size : Int) then (if 0 ≤ x9 then (spec_ReadSet.j1 k x0 x1 x6 x7 x8 x9 ((bt x0 x9) != 44)) else (none)) else (spec_ReadSet.j1 k x0 x1 x6 x7 x8 x9 false)) else ((spec_l05Set.f k x7).bind fun bt430 => (some (bt430.1, bt430.2)))
def spec_ReadSet.j1 : Nat → ByteArray → Int → List (S40) → List Bool → Int → Int → Bool → Option ((List (S40)) × Bool)
 | 0, _, _, _, _, _, _, _ => none
 | k + 1, x0, x1, x6, x7, x8, x9, x35 => if x35 = true then (spec_ReadSet.l0 k x0 x1 x6 x7 x8 (wrap64 (x9 + 1))) else (if 0 ≤ x8 then (if x8 ≤ x9 then (if x9 ≤ (x0.size : Int) then ((spec_l05Part.f k (x0.extract (x8 : Int).toNat (x9 : Int).toNat) x1).bind fun bt434 => (if bt434.2.2 = true then (spec_ReadSet.l1 k x0 x1 x6 x7 x9 bt434.2.1 bt434.1) else (some (x6, false)))) else (none)) else (none)) else (none))
def spec_ReadSet.l1 : Nat → ByteArray → Int → List (S40) → List Bool → Int → Int → Int → Option ((List (S40)) × Bool)
 | 0, _, _, _, _, _, _, _ => none
 | k + 1, x0, x1, x6, x7, x9, x11, x13 => if x13 ≤ x11 then (if 0 ≤ x13 then (if x13 < (x7.length : Int) then (spec_ReadSet.l1 k x0 x1 x6 (x7.set (x13 : Int).toNat true) x9 x11 (wrap64 (x13 + 1))) else (none)) else (none)) else (spec_ReadSet.l0 k x0 x1 x6 x7 (wrap64 (x9 + 1)) (wrap64 (x9 + 1)))
end
def spec_ReadSet.f (k : Nat) (a0 : ByteArray) (a1 : Int) : Option ((List (S40)) × Bool) := (some (([] : List (S40)) : List (S40))).bind fun y423 => ((spec_l01In.f a1 1 9999).bind fun t426 => (if t426 = true then (if 10001 ≤ 281474976710656 then (spec_ReadSet.l0 k a0 a1 y423 (List.replicate 10001 false) 0 0) else (none)) else (some (y423, false))))
theorem spec_ReadSet.mono_l : ∀ k, (∀ y0 y1 y2 y3 y4 y5, LeO (spec_ReadSet.l0 k y0 y1 y2 y3 y4 y5) (spec_ReadSet.l0 (k + 1) y0 y1 y2 y3 y4 y5)) ∧ (∀ y0 y1 y2 y3 y4 y5 y6, LeO (spec_ReadSet.j1 k y0 y1 y2 y3 y4 y5 y6) (spec_ReadSet.j1 (k + 1) y0 y1 y2 y3 y4 y5 y6)) ∧ (∀ y0 y1 y2 y3 y4 y5 y6, LeO (spec_ReadSet.l1 k y0 y1 y2 y3 y4 y5 y6) (spec_ReadSet.l1 (k + 1) y0 y1 y2 y3 y4 y5 y6))
 | 0 => ⟨fun _ _ _ _ _ _ r h => by simp [spec_ReadSet.l0] at h, fun _ _ _ _ _ _ _ r h => by simp [spec_ReadSet.j1] at h, fun _ _ _ _ _ _ _ r h => by simp [spec_ReadSet.l1] at h⟩
 | k + 1 => by
  obtain ⟨ih0, ih1, ih2⟩ := spec_ReadSet.mono_l k
  refine ⟨?_, ?_, ?_⟩
  ·intro y0 y1 y2 y3 y4 y5
   unfold spec_ReadSet.l0
   repeat' first
   | (with_reducible exact ih0 _ _ _ _ _ _)
   | (with_reducible exact ih1 _ _ _ _ _ _ _)
   | (with_reducible exact ih2 _ _ _ _ _ _ _)
   | (with_reducible exact spec_l05Part.mono _ _ _)
   | (with_reducible exact spec_l05Set.mono _ _)
   | (with_reducible exact LeO.refl _)
   | (with_reducible exact LeO.none _)
   | (with_reducible refine LeO.ite ?_ ?_)
   | (with_reducible refine LeO.bind ?_ (fun _ => ?_))
   | exact ih0 _ _ _ _ _ _
   | exact ih1 _ _ _ _ _ _ _
   | exact ih2 _ _ _ _ _ _ _
   | exact spec_l05Part.mono _ _ _
   | exact spec_l05Set.mono _ _
   | exact LeO.none _
   | refine LeO.ite ?_ ?_
   | refine LeO.bind ?_ (fun _ => ?_)
  ·intro y0 y1 y2 y3 y4 y5 y6
   unfold spec_ReadSet.j1
   repeat' first
   | (with_reducible exact ih0 _ _ _ _ _ _)
   | (with_reducible exact ih1 _ _ _ _ _ _ _)
   | (with_reducible exact ih2 _ _ _ _ _ _ _)
   | (with_reducible exact spec_l05Part.mono _ _ _)
   | (with_reducible exact spec_l05Set.mono _ _)
   | (with_reducible exact LeO.refl _)
   | (with_reducible exact LeO.none _)
   | (with_reducible refine LeO.ite ?_ ?_)
   | (with_reducible refine LeO.bind ?_ (fun _ => ?_))
   | exact ih0 _ _ _ _ _ _
   | exact ih1 _ _ _ _ _ _ _
   | exact ih2 _ _ _ _ _ _ _
   | exact spec_l05Part.mono _ _ _
   | exact spec_l05Set.mono _ _
   | exact LeO.none _
   | refine LeO.ite ?_ ?_
   | refine LeO.bind ?_ (fun _ => ?_)
  ·intro y0 y1 y2 y3 y4 y5 y6
   unfold spec_ReadSet.l1
   repeat' first
   | (with_reducible exact ih0 _ _ _ _ _ _)
   | (with_reducible exact ih1 _ _ _ _ _ _ _)
   | (with_reducible exact ih2 _ _ _ _ _ _ _)
   | (with_reducible exact spec_l05Part.mono _ _ _)
   | (with_reducible exact spec_l05Set.mono _ _)
   | (with_reducible exact LeO.refl _)
   | (with_reducible exact LeO.none _)
   | (with_reducible refine LeO.ite ?_ ?_)
   | (with_reducible refine LeO.bind ?_ (fun _ => ?_))
   | exact ih0 _ _ _ _ _ _
   | exact ih1 _ _ _ _ _ _ _
   | exact ih2 _ _ _ _ _ _ _
   | exact spec_l05Part.mono _ _ _
   | exact spec_l05Set.mono _ _
   | exact LeO.none _
   | refine LeO.ite ?_ ?_
   | refine LeO.bind ?_ (fun _ => ?_)
theorem spec_ReadSet.mono : ∀ a0 a1 k, LeO (spec_ReadSet.f k a0 a1) (spec_ReadSet.f (k + 1) a0 a1) := by
 intro a0 a1 k
 obtain ⟨ih0, ih1, ih2⟩ := spec_ReadSet.mono_l k
 unfold spec_ReadSet.f
 repeat' first
   | (with_reducible exact ih0 _ _ _ _ _ _)
   | (with_reducible exact ih1 _ _ _ _ _ _ _)
   | (with_reducible exact ih2 _ _ _ _ _ _ _)
   | (with_reducible exact spec_l05Part.mono _ _ _)
   | (with_reducible exact spec_l05Set.mono _ _)
   | (with_reducible exact LeO.refl _)
   | (with_reducible exact LeO.none _)
   | (with_reducible refine LeO.ite ?_ ?_)
   | (with_reducible refine LeO.bind ?_ (fun _ => ?_))
   | exact ih0 _ _ _ _ _ _
   | exact ih1 _ _ _ _ _ _ _
   | exact ih2 _ _ _ _ _ _ _
   | exact spec_l05Part.mono _ _ _
   | exact spec_l05Set.mono _ _
   | exact LeO.none _
   | refine LeO.ite ?_ ?_
   | refine LeO.bind ?_ (fun _ => ?_)
set_option maxHeartbeats 8000000 in
set_option maxRecDepth 100000 in
theorem spec_ReadSet.calls (k : Nat) (a0 : ByteArray) (a1 : Int) (r1 : List (S40)) (r2 : Bool) (w : World) (h : spec_ReadSet.f k a0 a1 = some (r1, r2)) :
  Calls Tryd.prog 18 #[.string a0, .int .i64 a1] w fun e w' => ∃ v0_ : Value, e = .returned (.tuple #[v0_, .bool r2]) ∧ Kd.R k40 40 w' w.heap.size (fun _ => True) v0_ r1 ∧ Below w.heap.size w w' := by
 have HB := Aside0.mk (Below.refl w.heap.size w)
 have H : ((some (([] : List (S40)) : List (S40))).bind fun y423 => ((spec_l01In.f a1 1 9999).bind fun t426 => (if t426 = true then (if 10001 ≤ 281474976710656 then (spec_ReadSet.l0 k a0 a1 y423 (List.replicate 10001 false) 0 0) else (none)) else (some (y423, false))))) = some (r1, r2) := h
 clear h
 obtain ⟨y423, hy423⟩ : ∃ y_ : List (S40), y_ = (([] : List (S40))) := ⟨_, rfl⟩
 replace H : ((spec_l01In.f a1 1 9999).bind fun t426 => (if t426 = true then (if 10001 ≤ 281474976710656 then (spec_ReadSet.l0 k a0 a1 y423 (List.replicate 10001 false) 0 0) else (none)) else (some (y423, false)))) = some (r1, r2) := by first | (rw [hy423]; with_reducible exact H) | (have H2_ := (Option.bind_some _ _).symm.trans H; rw [hy423]; with_reducible exact H2_) | (have H2_ := (Option.bind_some _ _).symm.trans H; with_reducible exact H2_) | with_reducible exact H | (rw [hy423]; exact H) | exact H
 have Ny423 := Aside0.mk hy423
 clear hy423
 replace H := Option.bind_eq_some_iff.mp H
 obtain ⟨t426, A30, H⟩ := H
 have A3 := Aside0.mk A30
 clear A30
 by_cases c4 : t426 = true
 ·subst c4
  rw [if_pos rfl] at H
  by_cases c5 : 10001 ≤ 281474976710656
  ·rw [if_pos c5] at H
   have c5b0 := eq_true c5
   have c5b1 : decide (10001 ≤ 281474976710656) = true := decide_eq_true c5
   clear c5
   obtain ⟨y427, hy427⟩ : ∃ y_ : List Bool, y_ = (List.replicate 10001 false) := ⟨_, rfl⟩
   replace H : (spec_ReadSet.l0 k a0 a1 y423 y427 0 0) = some (r1, r2) := by first | (rw [hy427]; with_reducible exact H) | (have H2_ := (Option.bind_some _ _).symm.trans H; rw [hy427]; with_reducible exact H2_) | (have H2_ := (Option.bind_some _ _).symm.trans H; with_reducible exact H2_) | with_reducible exact H | (rw [hy427]; exact H) | exact H
   have Ny427 := Aside0.mk hy427
   clear hy427
   have H' := Aside0.mk H
   clear H
   go_enter Tryd.func18, Tryd.ntmps18
   go_wp2_with (first | ((with_reducible refine gate_dst (N := 14) rfl ?_); refine Kd.R_lit k40 _ 40 ?hg (N := 14) ?hd (xs := ([] : List (S40))) (inner := []) (ok := fun _ => True) (okp := fun _ => True) ?hr ?hp (fun _ hk => hk) trivial (Below.refl _ _) (Nat.le_refl _) (by simp) ?_; (case hd => rfl); (case hg => rfl); (case hr => first | (go_simp; done) | (go_simp; rfl)); (case hp => exact (Reps.none _ _)); intro v424 w6 ho7 hb hg_ hnew_; clear hg_ hnew_; (first | rw [← Ny423.out] at ho7 | (simp only [Int.reduceToNat] at ho7; rw [← Ny423.out] at ho7)); have HO425 := Aside0.mk (Kd.R_lower ho7 (below_size (zw HB))); replace HB := zs HB hb; clear hb ho7) | ((with_reducible refine gate_callee (f := 52) rfl ?_); refine zG (some 16) Tryd.func52 #[.int .i64 a1, .int .i64 1, .int .i64 9999] ?_; (with_reducible refine (spec_l01In.calls a1 1 9999 true _ A3.out).mono ?_); rintro e w' ⟨rfl, ⟨nd, rfl⟩⟩; refine ⟨_, rfl, ?_⟩) | ((with_reducible refine gate_dst (N := 19) rfl ?_); refine Kd.R_make Kd.bool _ 4 rfl (N := 19) rfl 68 _ _ rfl 10001 rfl rfl Tryd.underlying68 (.bool false) 1 info4 rfl (by decide) (by omega) false (ok := fun _ => True) (okp := fun _ => True) rfl (fun _ hk => hk) trivial (by omega) (by omega) (Below.refl _ _) (Nat.le_refl _) ?_; intro v428 w8 ho9 hb hg_ hnew_; clear hg_ hnew_; (first | rw [← Ny427.out] at ho9 | (simp only [Int.reduceToNat] at ho9; rw [← Ny427.out] at ho9)); replace HO425 := Aside0.mk (Kd.R_below (zo HO425.out) hb); have HO429 := Aside0.mk (Kd.R_lower ho9 (below_size (zw HB))); replace HB := zs HB hb; clear hb ho9))
   go_loopg [8, 9] k (fun kq v8 v9 w' => ∃ (x7_1 : List Bool) (x8_1 : Int) (x9_1 : Int), v8 = .int .i64 x8_1 ∧ v9 = .int .i64 x9_1 ∧ Aside0 (spec_ReadSet.l0 kq a0 a1 y423 x7_1 x8_1 x9_1 = some (r1, r2)) ∧ Aside0 (kq ≤ k) ∧ Aside0 (Kd.R k40 40 w' w.heap.size (fun _ => True) v424 y423) ∧ Aside0 (Kd.R Kd.bool 4 w' w.heap.size (fun _ => True) v428 x7_1) ∧ Aside0 (Below w.heap.size w w'))
   case atStart => exact ⟨(y427), (0), (0), zf, zf, H', ⟨Nat.le_refl _⟩, ⟨zo HO425.out⟩, ⟨zo HO429.out⟩, ⟨zw HB⟩⟩
   case round =>
    clear H'
    try clear c1
    try clear p2
    try clear c4
    try clear c5
    try clear c5b0
    try clear c5b1
    obtain ⟨x7_1, x8_1, x9_1, rfl, rfl, HA, HK1, HO_6, HO_7, HB⟩ := hrel
    cases gk with
    | zero => exact absurd HA.out (by simp [spec_ReadSet.l0])
    | succ k1 =>
     have H := HA.out
     clear HA
     simp only [spec_ReadSet.l0] at H
     by_cases c10 : x9_1 ≤ (a0.size : Int)
     ·rw [if_pos c10] at H
      have c10b0 : decide (x9_1 ≤ (a0.size : Int)) = true := decide_eq_true c10
      clear c10
      have HC11 := Aside0.mk H
      clear H
      go_upto_region 9 with (fail)
      go_cut [35] (fun v35 wc => ∃ (kq : Nat) (x35_10 : Bool), v35 = .bool x35_10 ∧ Aside0 (spec_ReadSet.j1 kq a0 a1 y423 x7_1 x8_1 x9_1 x35_10 = some (r1, r2)) ∧ Aside0 (kq ≤ k1) ∧ Aside0 (Kd.R k40 40 wc w.heap.size (fun _ => True) v424 y423) ∧ Aside0 (Kd.R Kd.bool 4 wc w.heap.size (fun _ => True) v428 x7_1) ∧ Aside0 (Below w.heap.size w wc))
      case first =>
       have H := HC11.out
       clear HC11
       by_cases c12 : x9_1 < (a0.size : Int)
       ·rw [if_pos c12] at H
        have c12b0 : decide (x9_1 < (a0.size : Int)) = true := decide_eq_true c12
        clear c12
        (first | rw [c12b0] | (simp only [i64_w, i32_w]; rw [c12b0]) | skip)
        by_cases c13 : 0 ≤ x9_1
        ·rw [if_pos c13] at H
         have c13b0 : decide (0 ≤ x9_1) = true := decide_eq_true c13
         clear c13
         have H' := Aside0.mk H
         clear H
         have p14 : 0 ≤ (x9_1 : Int) := of_decide_eq_true za
         have q14 : x9_1 < (a0.size : Int) := of_decide_eq_true za
         have hx14 := bt_at a0 x9_1
         replace p14 := eq_true p14
         replace q14 := eq_true q14
         go_wp2
         go_meet
         case rel => exact ⟨_, (((bt a0 x9_1) != 44)), zf, H', ⟨by have := HK1.out; first | omega | exact Nat.le_refl _⟩, ⟨zo HO_6.out⟩, ⟨zo HO_7.out⟩, ⟨zw HB⟩⟩
        ·rw [if_neg c13] at H
         exact absurd H (by simp)
       ·rw [if_neg c12] at H
        have c12b0 : decide (x9_1 < (a0.size : Int)) = false := decide_eq_false c12
        clear c12
        (first | rw [c12b0] | (simp only [i64_w, i32_w]; rw [c12b0]) | skip)
        have H' := Aside0.mk H
        clear H
        go_wp2
        go_meet
        case rel => exact ⟨_, (false), zf, H', ⟨by have := HK1.out; first | omega | exact Nat.le_refl _⟩, ⟨zo HO_6.out⟩, ⟨zo HO_7.out⟩, ⟨zw HB⟩⟩
      case rest =>
       clear HC11
       try clear c1
       try clear p1
       try clear q1
       try clear hx1
       try clear p2
       try clear c4
       try clear c5
       try clear c5b0
       try clear c5b1
       try clear c10
       try clear c10b0
       try clear c12
       try clear c12b0
       try clear c13
       try clear c13b0
       try clear p14
       try clear q14
       try clear hx14
       try clear p14
       try clear p2
       try clear q14
       obtain ⟨kq, x35_10, rfl, HA, HJ10, HO_6, HO_7, HB⟩ := hcut
       cases kq with
       | zero => exact absurd HA.out (by simp [spec_ReadSet.j1])
       | succ kj10 =>
        have H := HA.out
        clear HA
        simp only [spec_ReadSet.j1] at H
        by_cases c15 : x35_10 = true
        ·subst c15
         rw [if_pos rfl] at H
         have H' := Aside0.mk H
         clear H
         go_wp2
         go_roundg kj10
         case measure => have := HK1.out; have := HJ10.out; omega
         case rel => exact ⟨(x7_1), (x8_1), (wrap64 (x9_1 + 1)), zf, zf, H', ⟨by have := HK1.out; have := HJ10.out; omega⟩, ⟨zo HO_6.out⟩, ⟨zo HO_7.out⟩, ⟨zw HB⟩⟩
        ·replace c15 := Bool.eq_false_iff.mpr c15
         subst c15
         rw [if_neg (show ¬ (false = true) by decide)] at H
         by_cases c16 : 0 ≤ x8_1
         ·rw [if_pos c16] at H
          have c16b0 := eq_true c16
          have c16b1 : decide (0 ≤ x8_1) = true := decide_eq_true c16
          clear c16
          by_cases c17 : x8_1 ≤ x9_1
          ·rw [if_pos c17] at H
           have c17b0 := eq_true c17
           have c17b1 : decide (x8_1 ≤ x9_1) = true := decide_eq_true c17
           clear c17
           by_cases c18 : x9_1 ≤ (a0.size : Int)
           ·rw [if_pos c18] at H
            have c18b0 := eq_true c18
            have c18b1 : decide (x9_1 ≤ (a0.size : Int)) = true := decide_eq_true c18
            clear c18
            replace H := Option.bind_eq_some_iff.mp H
            obtain ⟨⟨t434, t435, t436⟩, A190, H⟩ := H
            replace H : (if t436 = true then (spec_ReadSet.l1 kj10 a0 a1 y423 x7_1 x9_1 t435 t434) else (some (y423, false))) = some (r1, r2) := H
            have A19 := Aside0.mk A190
            clear A190
            by_cases c20 : t436 = true
            ·subst c20
             rw [if_pos rfl] at H
             have H' := Aside0.mk H
             clear H
             go_wp2_with (first | ((with_reducible refine gate_callee (f := 53) rfl ?_); refine zG (some 42) Tryd.func53 #[.string (a0.extract (x8_1 : Int).toNat (x9_1 : Int).toNat), .int .i64 a1] ?_; (with_reducible refine (spec_l05Part.calls kj10 (a0.extract (x8_1 : Int).toNat (x9_1 : Int).toNat) a1 t434 t435 true _ A19.out).mono ?_); rintro e w' ⟨rfl, ⟨nd, rfl⟩⟩; refine ⟨_, rfl, ?_⟩))
             go_loopg [13] kj10 (fun kq v13 w' => ∃ (x7_3 : List Bool) (x13_3 : Int), v13 = .int .i64 x13_3 ∧ Aside0 (spec_ReadSet.l1 kq a0 a1 y423 x7_3 x9_1 t435 x13_3 = some (r1, r2)) ∧ Aside0 (kq ≤ kj10) ∧ Aside0 (Kd.R k40 40 w' w.heap.size (fun _ => True) v424 y423) ∧ Aside0 (Kd.R Kd.bool 4 w' w.heap.size (fun _ => True) v428 x7_3) ∧ Aside0 (Below w.heap.size w w'))
             case atStart => exact ⟨(x7_1), (t434), zf, H', ⟨Nat.le_refl _⟩, ⟨zo HO_6.out⟩, ⟨zo HO_7.out⟩, ⟨zw HB⟩⟩
             case round =>
              clear H'
              try clear c1
              try clear p1
              try clear q1
              try clear hx1
              try clear c2
              try clear p2
              try clear c4
              try clear c5
              try clear c5b0
              try clear c5b1
              try clear p6
              try clear c10
              try clear c10b0
              try clear c12
              try clear c12b0
              try clear c13
              try clear c13b0
              try clear p14
              try clear q14
              try clear hx14
              try clear c15
              try clear c16
              try clear c16b0
              try clear c16b1
              try clear c17
              try clear c17b0
              try clear c17b1
              try clear c18
              try clear c18b0
              try clear c18b1
              try clear c20
              try clear p1
              try clear p14
              try clear p2
              try clear q1
              try clear q14
              obtain ⟨x7_3, x13_3, rfl, HA, HK3, HO_6, HO_7, HB⟩ := hrel
              cases gk with
              | zero => exact absurd HA.out (by simp [spec_ReadSet.l1])
              | succ k3 =>
               have H := HA.out
               clear HA
               simp only [spec_ReadSet.l1] at H
               by_cases c21 : x13_3 ≤ t435
               ·rw [if_pos c21] at H
                have c21b0 : decide (x13_3 ≤ t435) = true := decide_eq_true c21
                clear c21
                by_cases c22 : 0 ≤ x13_3
                ·rw [if_pos c22] at H
                 have c22b0 : decide (0 ≤ x13_3) = true := decide_eq_true c22
                 clear c22
                 by_cases c23 : x13_3 < (x7_3.length : Int)
                 ·rw [if_pos c23] at H
                  have c23b0 : decide (x13_3 < (x7_3.length : Int)) = true := decide_eq_true c23
                  clear c23
                  obtain ⟨y437, hy437⟩ : ∃ y_ : List Bool, y_ = (x7_3.set (x13_3 : Int).toNat true) := ⟨_, rfl⟩
                  replace H : (spec_ReadSet.l1 k3 a0 a1 y423 y437 x9_1 t435 (wrap64 (x13_3 + 1))) = some (r1, r2) := by first | (rw [hy437]; with_reducible exact H) | (have H2_ := (Option.bind_some _ _).symm.trans H; rw [hy437]; with_reducible exact H2_) | (have H2_ := (Option.bind_some _ _).symm.trans H; with_reducible exact H2_) | with_reducible exact H | (rw [hy437]; exact H) | exact H
                  have Ny437 := Aside0.mk hy437
                  clear hy437
                  have H' := Aside0.mk H
                  clear H
                  have p24 : 0 ≤ (x13_3 : Int) := of_decide_eq_true za
                  have q24 : (x13_3 : Int) < ((x7_3.length : Int) : Int) := of_decide_eq_true za
                  obtain ⟨go24, co24, eo24, gb24, gl24, cl24, HG24⟩ := Kd.R_form HO_7.out (by omega)
                  (first | cases eo24 | (injection eo24 with ea_ en_ ec_; (first | subst ea_ | (injection ea_ with ea_; subst ea_)); subst ec_; clear en_))
                  have GB24 := Aside0.mk gb24
                  have GG24 := Aside0.mk HG24
                  clear gb24 gl24 HG24
                  obtain ⟨hx24_0, hf24_0⟩ := Kd.R_celln false HO_7.out (x13_3 : Int) p24 q24
                  replace p24 := eq_true p24
                  replace q24 := eq_true q24
                  have HP25 := Kd.R_putg HO_7.out (x13_3 : Int) true
                  go_wp2_with (first | ((with_reducible refine gate_store (t := 4) (p := 57) rfl ?_); refine store_event (t := 4) (p := 57) (v := ?vo_w26) (w1 := (wr.setCell ⟨go24, (x13_3 : Int).toNat, none⟩ (.bool true))) ?hg ?ho ?hn ?hr ?_; (case ho => rfl); (case hg => rfl); (case hn => rfl); (case hr => first | (go_simp; done) | (go_simp; rfl)); intro w26 hw; have hg : wr.grownBy w26 (some go24) := (by rw [hw]; exact HP25.2); have hp_ : Kd.R Kd.bool 4 w26 w.heap.size (fun _ => True) (.slice (some ⟨go24, 0, none⟩) x7_3.length co24) y437 := (by rw [hw, Ny437.out]; exact HP25.1); clear HP25; replace HO_6 := Aside0.mk (Kd.R_over' (v := (.slice (some ⟨go24, 0, none⟩) x7_3.length co24)) (zo HO_6.out) (Kd.R_typed HO_7.out) (by decide) hg); replace HO_7 := Aside0.mk (hp_); replace HB := Aside0.mk ((by rw [hw]; exact below_set (HB.out) GB24.out : Below w.heap.size w w26)); clear hg hw hp_))
                  go_roundg k3
                  case measure => have := HK1.out; have := HJ10.out; have := HK3.out; omega
                  case rel => exact ⟨(y437), (wrap64 (x13_3 + 1)), zf, H', ⟨by have := HK1.out; have := HJ10.out; have := HK3.out; omega⟩, ⟨zo HO_6.out⟩, ⟨zo HO_7.out⟩, ⟨zw HB⟩⟩
                 ·rw [if_neg c23] at H
                  exact absurd H (by simp)
                ·rw [if_neg c22] at H
                 exact absurd H (by simp)
               ·rw [if_neg c21] at H
                have c21b0 : decide (x13_3 ≤ t435) = false := decide_eq_false c21
                clear c21
                have H' := Aside0.mk H
                clear H
                go_wp2
                go_roundg k3
                case measure => have := HK1.out; have := HJ10.out; have := HK3.out; omega
                case rel => exact ⟨(x7_3), (wrap64 (x9_1 + 1)), (wrap64 (x9_1 + 1)), zf, zf, H', ⟨by have := HK1.out; have := HJ10.out; have := HK3.out; omega⟩, ⟨zo HO_6.out⟩, ⟨zo HO_7.out⟩, ⟨zw HB⟩⟩
            ·replace c20 := Bool.eq_false_iff.mpr c20
             subst c20
             rw [if_neg (show ¬ (false = true) by decide)] at H
             simp only [Option.some.injEq, Prod.mk.injEq] at H
             obtain ⟨rfl, rfl⟩ := H
             go_wp2_with (first | ((with_reducible refine gate_callee (f := 53) rfl ?_); refine zG (some 42) Tryd.func53 #[.string (a0.extract (x8_1 : Int).toNat (x9_1 : Int).toNat), .int .i64 a1] ?_; (with_reducible refine (spec_l05Part.calls kj10 (a0.extract (x8_1 : Int).toNat (x9_1 : Int).toNat) a1 t434 t435 false _ A19.out).mono ?_); rintro e w' ⟨rfl, ⟨nd, rfl⟩⟩; refine ⟨_, rfl, ?_⟩))
             go_ret2
             exact ⟨_, ze, zo HO_6.out, zw HB⟩
           ·rw [if_neg c18] at H
            exact absurd H (by simp)
          ·rw [if_neg c17] at H
           exact absurd H (by simp)
         ·rw [if_neg c16] at H
          exact absurd H (by simp)
     ·rw [if_neg c10] at H
      have c10b0 : decide (x9_1 ≤ (a0.size : Int)) = false := decide_eq_false c10
      clear c10
      replace H := Option.bind_eq_some_iff.mp H
      obtain ⟨⟨t430, t431⟩, A270, H⟩ := H
      replace H : (some (t430, t431)) = some (r1, r2) := H
      have A27 := Aside0.mk A270
      clear A270
      simp only [Option.some.injEq, Prod.mk.injEq] at H
      obtain ⟨rfl, rfl⟩ := H
      obtain ⟨Ao28, co28, eo28⟩ := Kd.R_slice HO_7.out
      subst eo28
      go_wp2_with (first | ((with_reducible refine gate_callee (f := 54) rfl ?_); refine zG (some 61) Tryd.func54 #[.slice Ao28 x7_1.length co28] ?_; (with_reducible refine (spec_l05Set.calls k1 _ _ x7_1 t430 t431 _ ?side1 ?side2 A27.out).mono ?_); (case side1 => exact zI (Kd.R_reads' HO_7.out).2.2); (case side2 => exact (Kd.R_reads' HO_7.out).2.1); rintro e w29 ⟨v432, rfl, ho0, hb⟩; refine ⟨_, rfl, ?_⟩; replace HO_7 := Aside0.mk (Kd.R_below (zo HO_7.out) hb); have HO433 := Aside0.mk (Kd.R_lower (Kd.R_new' ho0 (Kd.R_lt (zo HO_6.out))) (below_size (zw HB))); replace HO_6 := Aside0.mk (Kd.R_elder' (zo HO_6.out) (Kd.R_base ho0) hb); replace HB := zs HB hb; clear ho0 hb))
      go_ret2
      exact ⟨_, ze, zo (Kd.R_mono HO433.out (fun _ hk => trivial)), zw HB⟩
  ·rw [if_neg c5] at H
   exact absurd H (by simp)
 ·replace c4 := Bool.eq_false_iff.mpr c4
  subst c4
  rw [if_neg (show ¬ (false = true) by decide)] at H
  simp only [Option.some.injEq, Prod.mk.injEq] at H
  obtain ⟨rfl, rfl⟩ := H
  go_enter Tryd.func18, Tryd.ntmps18
  go_wp2_with (first | ((with_reducible refine gate_dst (N := 14) rfl ?_); refine Kd.R_lit k40 _ 40 ?hg (N := 14) ?hd (xs := ([] : List (S40))) (inner := []) (ok := fun _ => True) (okp := fun _ => True) ?hr ?hp (fun _ hk => hk) trivial (Below.refl _ _) (Nat.le_refl _) (by simp) ?_; (case hd => rfl); (case hg => rfl); (case hr => first | (go_simp; done) | (go_simp; rfl)); (case hp => exact (Reps.none _ _)); intro v424 w30 ho31 hb hg_ hnew_; clear hg_ hnew_; (first | rw [← Ny423.out] at ho31 | (simp only [Int.reduceToNat] at ho31; rw [← Ny423.out] at ho31)); have HO425 := Aside0.mk (Kd.R_lower ho31 (below_size (zw HB))); replace HB := zs HB hb; clear hb ho31) | ((with_reducible refine gate_callee (f := 52) rfl ?_); refine zG (some 16) Tryd.func52 #[.int .i64 a1, .int .i64 1, .int .i64 9999] ?_; (with_reducible refine (spec_l01In.calls a1 1 9999 false _ A3.out).mono ?_); rintro e w' ⟨rfl, ⟨nd, rfl⟩⟩; refine ⟨_, rfl, ?_⟩))
  go_ret2
  exact ⟨_, ze, zo HO425.out, zw HB⟩

/-! ### laws_sameSet: function 19 -/
def laws_sameSet.l0 : Nat → List (S40) → List (S40) → Int → Option (Bool)
 | 0, _, _, _ => none
 | k + 1, x0, x1, x5 => if x5 < (x0.length : Int) then (if 0 ≤ x5 then (if x5 < (x1.length : Int) then (if (!(((rd_T40 x0 x5).f0) == ((rd_T40 x1 x5).f0)) || (!(((rd_T40 x0 x5).f1) == ((rd_T40 x1 x5).f1)))) = true then (some false) else (laws_sameSet.l0 k x0 x1 (wrap64 (x5 + 1)))) else (none)) else (none)) else (some true)
def laws_sameSet.f (k : Nat) (l0 : List (S40)) (l1 : List (S40)) : Option (Bool) := if (l0.length : Int) = (l1.length : Int) then (laws_sameSet.l0 k l0 l1 0) else (some false)
theorem laws_sameSet.mono_l : ∀ k, (∀ y0 y1 y2, LeO (laws_sameSet.l0 k y0 y1 y2) (laws_sameSet.l0 (k + 1) y0 y1 y2))
 | 0 => fun _ _ _ r h => by simp [laws_sameSet.l0] at h
 | k + 1 => by
  have ih0 := laws_sameSet.mono_l k
  ·intro y0 y1 y2
   unfold laws_sameSet.l0
   repeat' first
   | (with_reducible exact ih0 _ _ _)
   | (with_reducible exact LeO.refl _)
   | (with_reducible exact LeO.none _)
   | (with_reducible refine LeO.ite ?_ ?_)
   | (with_reducible refine LeO.bind ?_ (fun _ => ?_))
   | exact ih0 _ _ _
   | exact LeO.none _
   | refine LeO.ite ?_ ?_
   | refine LeO.bind ?_ (fun _ => ?_)
theorem laws_sameSet.mono : ∀ a0 a1 k, LeO (laws_sameSet.f k a0 a1) (laws_sameSet.f (k + 1) a0 a1) := by
 intro a0 a1 k
 have ih0 := laws_sameSet.mono_l k
 unfold laws_sameSet.f
 repeat' first
   | (with_reducible exact ih0 _ _ _)
   | (with_reducible exact LeO.refl _)
   | (with_reducible exact LeO.none _)
   | (with_reducible refine LeO.ite ?_ ?_)
   | (with_reducible refine LeO.bind ?_ (fun _ => ?_))
   | exact ih0 _ _ _
   | exact LeO.none _
   | refine LeO.ite ?_ ?_
   | refine LeO.bind ?_ (fun _ => ?_)
set_option maxHeartbeats 8000000 in
set_option maxRecDepth 100000 in
theorem laws_sameSet.calls (k : Nat) (A0 : Option Addr) (c0 : Nat) (l0 : List (S40)) (A1 : Option Addr) (c1 : Nat) (l1 : List (S40)) (r : Bool) (w : World) (hr0 : Kd.C k40 w A0 l0.length l0) (hc0 : l0.length ≤ c0) (hr1 : Kd.C k40 w A1 l1.length l1) (hc1 : l1.length ≤ c1) (h : laws_sameSet.f k l0 l1 = some r) :
  Calls Tryd.prog 19 #[.slice A0 l0.length c0, .slice A1 l1.length c1] w fun e w' => e = .returned (.bool r) ∧ Drawn0 w w' := by
 have hu40 := Tryd.underlying40
 have HR0 := Aside0.mk hr0
 have HC0 := Aside0.mk hc0
 clear hr0 hc0
 have HR1 := Aside0.mk hr1
 have HC1 := Aside0.mk hc1
 clear hr1 hc1
 have H : (if (l0.length : Int) = (l1.length : Int) then (laws_sameSet.l0 k l0 l1 0) else (some false)) = some r := h
 clear h
 by_cases c3 : (l0.length : Int) = (l1.length : Int)
 ·rw [if_pos c3] at H
  have c3b0 : ((l0.length : Int) == (l1.length : Int)) = true := beq_iff_eq.mpr c3
  have c3b1 : ((l0.length : Int) != (l1.length : Int)) = false := bne_eq_false_iff_eq.mpr c3
  have c3b2 : (l0.length == l1.length) = true := by first | simpa using c3 | (simp at c3 ⊢; omega)
  clear c3
  have H' := Aside0.mk H
  clear H
  go_enter Tryd.func19, Tryd.ntmps19
  go_wp2
  repeat (go_quiet (fail); try go_wp2)
  go_loopg [5] k (fun kq v5 w' => ∃ (x5_1 : Int), v5 = .int .i64 x5_1 ∧ Aside0 (laws_sameSet.l0 kq l0 l1 x5_1 = some r) ∧ Aside0 (kq ≤ k) ∧ Drawn0 w w')
  case atStart => exact ⟨(0), zf, H', ⟨Nat.le_refl _⟩, by repeat (first | exact Drawn0.refl _ | apply Drawn0.step)⟩
  case round =>
   clear H'
   try clear c1
   try clear p2
   try clear c3
   try clear c3b0
   try clear c3b1
   try clear c3b2
   obtain ⟨x5_1, rfl, HA, HK1, ⟨m1, rfl⟩⟩ := hrel
   cases gk with
   | zero => exact absurd HA.out (by simp [laws_sameSet.l0])
   | succ k1 =>
    have H := HA.out
    clear HA
    simp only [laws_sameSet.l0] at H
    by_cases c4 : x5_1 < (l0.length : Int)
    ·rw [if_pos c4] at H
     have c4b0 : decide (x5_1 < (l0.length : Int)) = true := decide_eq_true c4
     clear c4
     by_cases c5 : 0 ≤ x5_1
     ·rw [if_pos c5] at H
      have c5b0 : decide (0 ≤ x5_1) = true := decide_eq_true c5
      clear c5
      by_cases c6 : x5_1 < (l1.length : Int)
      ·rw [if_pos c6] at H
       have c6b0 : decide (x5_1 < (l1.length : Int)) = true := decide_eq_true c6
       clear c6
       by_cases c7 : (!(((rd_T40 l0 x5_1).f0) == ((rd_T40 l1 x5_1).f0)) || (!(((rd_T40 l0 x5_1).f1) == ((rd_T40 l1 x5_1).f1)))) = true
       ·rw [if_pos c7] at H
        have c7b0 : (!(((rd_T40 l0 x5_1).f0) == ((rd_T40 l1 x5_1).f0)) || (!(((rd_T40 l0 x5_1).f1) == ((rd_T40 l1 x5_1).f1)))) = true := c7
        clear c7
        obtain rfl := Option.some.inj H
        have p438 : 0 ≤ (x5_1 : Int) := of_decide_eq_true za
        have q438 : x5_1 < (l0.length : Int) := of_decide_eq_true za
        obtain ⟨ad438, e438, hx438_0, hx438_1⟩ := at_T40 HR0.out x5_1 p438 q438
        cases e438
        replace p438 := eq_true p438
        replace q438 := eq_true q438
        have p439 : 0 ≤ (x5_1 : Int) := of_decide_eq_true za
        have q439 : x5_1 < (l1.length : Int) := of_decide_eq_true za
        obtain ⟨ad439, e439, hx439_0, hx439_1⟩ := at_T40 HR1.out x5_1 p439 q439
        cases e439
        replace p439 := eq_true p439
        replace q439 := eq_true q439
        go_wp2
        repeat (go_quiet (fail); try go_wp2)
        go_ret
        exact ⟨by first | rfl | (simp; done) | (simp [*]; done), by repeat (first | exact Drawn0.refl _ | apply Drawn0.step)⟩
       ·rw [if_neg c7] at H
        have c7b0 : (!(((rd_T40 l0 x5_1).f0) == ((rd_T40 l1 x5_1).f0)) || (!(((rd_T40 l0 x5_1).f1) == ((rd_T40 l1 x5_1).f1)))) = false := by simpa using c7
        clear c7
        have H' := Aside0.mk H
        clear H
        have p438 : 0 ≤ (x5_1 : Int) := of_decide_eq_true za
        have q438 : x5_1 < (l0.length : Int) := of_decide_eq_true za
        obtain ⟨ad438, e438, hx438_0, hx438_1⟩ := at_T40 HR0.out x5_1 p438 q438
        cases e438
        replace p438 := eq_true p438
        replace q438 := eq_true q438
        have p439 : 0 ≤ (x5_1 : Int) := of_decide_eq_true za
        have q439 : x5_1 < (l1.length : Int) := of_decide_eq_true za
        obtain ⟨ad439, e439, hx439_0, hx439_1⟩ := at_T40 HR1.out x5_1 p439 q439
        cases e439
        replace p439 := eq_true p439
        replace q439 := eq_true q439
        go_wp2
        repeat (go_quiet (fail); try go_wp2)
        go_roundg k1
        case measure => have := HK1.out; omega
        case rel => exact ⟨(wrap64 (x5_1 + 1)), zf, H', ⟨by have := HK1.out; omega⟩, by repeat (first | exact Drawn0.refl _ | apply Drawn0.step)⟩
      ·rw [if_neg c6] at H
       exact absurd H (by simp)
     ·rw [if_neg c5] at H
      exact absurd H (by simp)
    ·rw [if_neg c4] at H
     have c4b0 : decide (x5_1 < (l0.length : Int)) = false := decide_eq_false c4
     clear c4
     obtain rfl := Option.some.inj H
     go_wp2
     repeat (go_quiet (fail); try go_wp2)
     go_ret
     exact ⟨by first | rfl | (simp; done) | (simp [*]; done), by repeat (first | exact Drawn0.refl _ | apply Drawn0.step)⟩
 ·rw [if_neg c3] at H
  have c3b0 : ((l0.length : Int) == (l1.length : Int)) = false := beq_eq_false_iff_ne.mpr c3
  have c3b1 : ((l0.length : Int) != (l1.length : Int)) = true := bne_iff_ne.mpr c3
  have c3b2 : (l0.length == l1.length) = false := by first | simpa using c3 | (simp at c3 ⊢; omega)
  obtain rfl := Option.some.inj H
  go_enter Tryd.func19, Tryd.ntmps19
  go_wp2
  repeat (go_quiet (fail); try go_wp2)
  go_ret
  exact ⟨by first | rfl | (simp; done) | (simp [*]; done), by repeat (first | exact Drawn0.refl _ | apply Drawn0.step)⟩

/-! ### impl_SetSize: function 22 -/
def impl_SetSize.l0 : Nat → Int → List (S40) → Int → Int → Option (Int)
 | 0, _, _, _, _ => none
 | k + 1, x3, x9, x10, x11 => if x11 < x10 then (if 0 ≤ x11 then (if x11 < (x9.length : Int) then (impl_SetSize.l0 k (wrap64 (x3 + (wrap64 ((wrap64 (((rd_T40 x9 x11).f1) - ((rd_T40 x9 x11).f0))) + 1)))) x9 x10 (wrap64 (x11 + 1))) else (none)) else (none)) else (some x3)
def impl_SetSize.f (k : Nat) (l0 : List (S40)) : Option (Int) := (impl_SetOk.f k l0).bind fun t440 => (if t440 = true then (impl_SetSize.l0 k 0 l0 (l0.length : Int) 0) else (some 0))
theorem impl_SetSize.mono_l : ∀ k, (∀ y0 y1 y2 y3, LeO (impl_SetSize.l0 k y0 y1 y2 y3) (impl_SetSize.l0 (k + 1) y0 y1 y2 y3))
 | 0 => fun _ _ _ _ r h => by simp [impl_SetSize.l0] at h
 | k + 1 => by
  have ih0 := impl_SetSize.mono_l k
  ·intro y0 y1 y2 y3
   unfold impl_SetSize.l0
   repeat' first
   | (with_reducible exact ih0 _ _ _ _)
   | (with_reducible exact impl_SetOk.mono _ _)
   | (with_reducible exact LeO.refl _)
   | (with_reducible exact LeO.none _)
   | (with_reducible refine LeO.ite ?_ ?_)
   | (with_reducible refine LeO.bind ?_ (fun _ => ?_))
   | exact ih0 _ _ _ _
   | exact impl_SetOk.mono _ _
   | exact LeO.none _
   | refine LeO.ite ?_ ?_
   | refine LeO.bind ?_ (fun _ => ?_)
theorem impl_SetSize.mono : ∀ a0 k, LeO (impl_SetSize.f k a0) (impl_SetSize.f (k + 1) a0) := by
 intro a0 k
 have ih0 := impl_SetSize.mono_l k
 unfold impl_SetSize.f
 repeat' first
   | (with_reducible exact ih0 _ _ _ _)
   | (with_reducible exact impl_SetOk.mono _ _)
   | (with_reducible exact LeO.refl _)
   | (with_reducible exact LeO.none _)
   | (with_reducible refine LeO.ite ?_ ?_)
   | (with_reducible refine LeO.bind ?_ (fun _ => ?_))
   | exact ih0 _ _ _ _
   | exact impl_SetOk.mono _ _
   | exact LeO.none _
   | refine LeO.ite ?_ ?_
   | refine LeO.bind ?_ (fun _ => ?_)
set_option maxHeartbeats 8000000 in
set_option maxRecDepth 100000 in
theorem impl_SetSize.calls (k : Nat) (A0 : Option Addr) (c0 : Nat) (l0 : List (S40)) (r : Int) (w : World) (hr0 : Kd.C k40 w A0 l0.length l0) (hc0 : l0.length ≤ c0) (h : impl_SetSize.f k l0 = some r) :
  Calls Tryd.prog 22 #[.slice A0 l0.length c0] w fun e w' => e = .returned (.int .i64 r) ∧ Below w.heap.size w w' := by
 have hu40 := Tryd.underlying40
 have HR0 := Aside0.mk hr0
 have HC0 := Aside0.mk hc0
 clear hr0 hc0
 have HB := Aside0.mk (Below.refl w.heap.size w)
 have H : ((impl_SetOk.f k l0).bind fun t440 => (if t440 = true then (impl_SetSize.l0 k 0 l0 (l0.length : Int) 0) else (some 0))) = some r := h
 clear h
 replace H := Option.bind_eq_some_iff.mp H
 obtain ⟨t440, A20, H⟩ := H
 have A2 := Aside0.mk A20
 clear A20
 by_cases c3 : t440 = true
 ·subst c3
  rw [if_pos rfl] at H
  have H' := Aside0.mk H
  clear H
  go_enter Tryd.func22, Tryd.ntmps22
  go_wp2_with (first | ((with_reducible refine gate_callee (f := 20) rfl ?_); refine zG (some 7) Tryd.func20 #[.slice A0 l0.length c0] ?_; (with_reducible refine (impl_SetOk.calls k _ _ l0 true _ ?side1 ?side2 A2.out).mono ?_); (case side1 => exact zI HR0.out); (case side2 => exact HC0.out); rintro e w4 ⟨rfl, hb⟩; refine ⟨_, rfl, ?_⟩; replace HB := zs HB hb; clear hb))
  go_loopg [3, 11] k (fun kq v3 v11 w' => ∃ (x3_1 : Int) (x11_1 : Int), v3 = .int .i64 x3_1 ∧ v11 = .int .i64 x11_1 ∧ Aside0 (impl_SetSize.l0 kq x3_1 l0 (l0.length : Int) x11_1 = some r) ∧ Aside0 (kq ≤ k) ∧ Aside0 (Below w.heap.size w w'))
  case atStart => exact ⟨(0), (0), zf, zf, H', ⟨Nat.le_refl _⟩, ⟨zw HB⟩⟩
  case round =>
   clear H'
   try clear c2
   try clear p2
   try clear c3
   obtain ⟨x3_1, x11_1, rfl, rfl, HA, HK1, HB⟩ := hrel
   cases gk with
   | zero => exact absurd HA.out (by simp [impl_SetSize.l0])
   | succ k1 =>
    have H := HA.out
    clear HA
    simp only [impl_SetSize.l0] at H
    by_cases c5 : x11_1 < (l0.length : Int)
    ·rw [if_pos c5] at H
     have c5b0 : decide (x11_1 < (l0.length : Int)) = true := decide_eq_true c5
     clear c5
     by_cases c6 : 0 ≤ x11_1
     ·rw [if_pos c6] at H
      have c6b0 : decide (0 ≤ x11_1) = true := decide_eq_true c6
      clear c6
      by_cases c7 : x11_1 < (l0.length : Int)
      ·rw [if_pos c7] at H
       have c7b0 : decide (x11_1 < (l0.length : Int)) = true := decide_eq_true c7
       clear c7
       have H' := Aside0.mk H
       clear H
       have p441 : 0 ≤ (x11_1 : Int) := of_decide_eq_true za
       have q441 : x11_1 < (l0.length : Int) := of_decide_eq_true za
       obtain ⟨ad441, e441, hx441_0, hx441_1⟩ := at_T40 HR0.out x11_1 p441 q441
       cases e441
       replace hx441_0 := zU HB.out hx441_0
       replace hx441_1 := zU HB.out hx441_1
       replace p441 := eq_true p441
       replace q441 := eq_true q441
       go_wp2_with (first | ((with_reducible refine gate_dst (N := 5) rfl ?_); refine zx (N := 5) (cs := #[.int .i64 0, .int .i64 0]) (t := 40) ?_; intro gb442 hg w8 hbox hb; have BK442 := Aside0.mk (hbox); have GW442 := zg HB hg; have GE442 := zg HB hg; replace HB := zs HB hb; clear hb hbox hg; have hcz9_0 : w8.cell? ⟨gb442, 0, none⟩ = some (.int .i64 0) := (blk_cell BK442.out 0).trans rfl; have hcz9_1 : w8.cell? ⟨gb442, 1, none⟩ = some (.int .i64 0) := (blk_cell BK442.out 1).trans rfl; have hfz9_0 := blk_frozen BK442.out 0; have hfz9_1 := blk_frozen BK442.out 1))
       go_roundg k1
       case measure => have := HK1.out; omega
       case rel => exact ⟨(wrap64 (x3_1 + (wrap64 ((wrap64 (((rd_T40 l0 x11_1).f1) - ((rd_T40 l0 x11_1).f0))) + 1)))), (wrap64 (x11_1 + 1)), zf, zf, H', ⟨by have := HK1.out; omega⟩, ⟨zw HB⟩⟩
      ·rw [if_neg c7] at H
       exact absurd H (by simp)
     ·rw [if_neg c6] at H
      exact absurd H (by simp)
    ·rw [if_neg c5] at H
     have c5b0 : decide (x11_1 < (l0.length : Int)) = false := decide_eq_false c5
     clear c5
     obtain rfl := Option.some.inj H
     go_wp2
     go_ret
     exact ⟨ze, zw HB⟩
 ·replace c3 := Bool.eq_false_iff.mpr c3
  subst c3
  rw [if_neg (show ¬ (false = true) by decide)] at H
  obtain rfl := Option.some.inj H
  go_enter Tryd.func22, Tryd.ntmps22
  go_wp2_with (first | ((with_reducible refine gate_callee (f := 20) rfl ?_); refine zG (some 7) Tryd.func20 #[.slice A0 l0.length c0] ?_; (with_reducible refine (impl_SetOk.calls k _ _ l0 false _ ?side1 ?side2 A2.out).mono ?_); (case side1 => exact zI HR0.out); (case side2 => exact HC0.out); rintro e w10 ⟨rfl, hb⟩; refine ⟨_, rfl, ?_⟩; replace HB := zs HB hb; clear hb))
  go_ret
  exact ⟨ze, zw HB⟩

/-! ### spec_SetSize: function 23 -/
def spec_SetSize.l0 : Nat → List (S40) → Int → Int → Option (Int)
 | 0, _, _, _ => none
 | k + 1, x0, x3, x4 => if x4 < (x0.length : Int) then (if 0 ≤ x4 then (spec_SetSize.l0 k x0 (wrap64 ((wrap64 ((wrap64 (x3 + ((rd_T40 x0 x4).f1))) - ((rd_T40 x0 x4).f0))) + 1)) (wrap64 (x4 + 1))) else (none)) else (some x3)
def spec_SetSize.f (k : Nat) (l0 : List (S40)) : Option (Int) := (spec_SetOk.f k l0).bind fun t443 => (if t443 = true then (spec_SetSize.l0 k l0 0 0) else (some 0))
theorem spec_SetSize.mono_l : ∀ k, (∀ y0 y1 y2, LeO (spec_SetSize.l0 k y0 y1 y2) (spec_SetSize.l0 (k + 1) y0 y1 y2))
 | 0 => fun _ _ _ r h => by simp [spec_SetSize.l0] at h
 | k + 1 => by
  have ih0 := spec_SetSize.mono_l k
  ·intro y0 y1 y2
   unfold spec_SetSize.l0
   repeat' first
   | (with_reducible exact ih0 _ _ _)
   | (with_reducible exact spec_SetOk.mono _ _)
   | (with_reducible exact LeO.refl _)
   | (with_reducible exact LeO.none _)
   | (with_reducible refine LeO.ite ?_ ?_)
   | (with_reducible refine LeO.bind ?_ (fun _ => ?_))
   | exact ih0 _ _ _
   | exact spec_SetOk.mono _ _
   | exact LeO.none _
   | refine LeO.ite ?_ ?_
   | refine LeO.bind ?_ (fun _ => ?_)
theorem spec_SetSize.mono : ∀ a0 k, LeO (spec_SetSize.f k a0) (spec_SetSize.f (k + 1) a0) := by
 intro a0 k
 have ih0 := spec_SetSize.mono_l k
 unfold spec_SetSize.f
 repeat' first
   | (with_reducible exact ih0 _ _ _)
   | (with_reducible exact spec_SetOk.mono _ _)
   | (with_reducible exact LeO.refl _)
   | (with_reducible exact LeO.none _)
   | (with_reducible refine LeO.ite ?_ ?_)
   | (with_reducible refine LeO.bind ?_ (fun _ => ?_))
   | exact ih0 _ _ _
   | exact spec_SetOk.mono _ _
   | exact LeO.none _
   | refine LeO.ite ?_ ?_
   | refine LeO.bind ?_ (fun _ => ?_)
set_option maxHeartbeats 8000000 in
set_option maxRecDepth 100000 in
theorem spec_SetSize.calls (k : Nat) (A0 : Option Addr) (c0 : Nat) (l0 : List (S40)) (r : Int) (w : World) (hr0 : Kd.C k40 w A0 l0.length l0) (hc0 : l0.length ≤ c0) (h : spec_SetSize.f k l0 = some r) :
  Calls Tryd.prog 23 #[.slice A0 l0.length c0] w fun e w' => e = .returned (.int .i64 r) ∧ Below w.heap.size w w' := by
 have HR0 := Aside0.mk hr0
 have HC0 := Aside0.mk hc0
 clear hr0 hc0
 have HB := Aside0.mk (Below.refl w.heap.size w)
 have H : ((spec_SetOk.f k l0).bind fun t443 => (if t443 = true then (spec_SetSize.l0 k l0 0 0) else (some 0))) = some r := h
 clear h
 replace H := Option.bind_eq_some_iff.mp H
 obtain ⟨t443, A20, H⟩ := H
 have A2 := Aside0.mk A20
 clear A20
 by_cases c3 : t443 = true
 ·subst c3
  rw [if_pos rfl] at H
  have H' := Aside0.mk H
  clear H
  go_enter Tryd.func23, Tryd.ntmps23
  go_wp2_with (first | (go_at_call 21; (with_reducible refine (spec_SetOk.calls k _ _ l0 true _ ?side1 ?side2 A2.out).mono ?_); (case side1 => exact zI HR0.out); (case side2 => exact HC0.out); rintro e w4 ⟨rfl, hb⟩; replace HB := zs HB hb; clear hb))
  repeat (go_quiet (first | (go_at_call 21; (with_reducible refine (spec_SetOk.calls k _ _ l0 true _ ?side1 ?side2 A2.out).mono ?_); (case side1 => exact zI HR0.out); (case side2 => exact HC0.out); rintro e w4 ⟨rfl, hb⟩; replace HB := zs HB hb; clear hb)); try go_wp2_with (first | (go_at_call 21; (with_reducible refine (spec_SetOk.calls k _ _ l0 true _ ?side1 ?side2 A2.out).mono ?_); (case side1 => exact zI HR0.out); (case side2 => exact HC0.out); rintro e w4 ⟨rfl, hb⟩; replace HB := zs HB hb; clear hb)))
  go_loopg [3, 4] k (fun kq v3 v4 w' => ∃ (x3_1 : Int) (x4_1 : Int), v3 = .int .i64 x3_1 ∧ v4 = .int .i64 x4_1 ∧ Aside0 (spec_SetSize.l0 kq l0 x3_1 x4_1 = some r) ∧ Aside0 (kq ≤ k) ∧ Aside0 (Below w.heap.size w w'))
  case atStart => exact ⟨(0), (0), zf, zf, H', ⟨Nat.le_refl _⟩, ⟨zw HB⟩⟩
  case round =>
   clear H'
   try clear c2
   try clear p2
   try clear c3
   obtain ⟨x3_1, x4_1, rfl, rfl, HA, HK1, HB⟩ := hrel
   cases gk with
   | zero => exact absurd HA.out (by simp [spec_SetSize.l0])
   | succ k1 =>
    have H := HA.out
    clear HA
    simp only [spec_SetSize.l0] at H
    by_cases c5 : x4_1 < (l0.length : Int)
    ·rw [if_pos c5] at H
     have c5b0 : decide (x4_1 < (l0.length : Int)) = true := decide_eq_true c5
     clear c5
     by_cases c6 : 0 ≤ x4_1
     ·rw [if_pos c6] at H
      have c6b0 : decide (0 ≤ x4_1) = true := decide_eq_true c6
      clear c6
      have H' := Aside0.mk H
      clear H
      have p444 : 0 ≤ (x4_1 : Int) := of_decide_eq_true za
      have q444 : x4_1 < (l0.length : Int) := of_decide_eq_true za
      obtain ⟨ad444, e444, hx444_0, hx444_1⟩ := at_T40 HR0.out x4_1 p444 q444
      cases e444
      replace hx444_0 := zU HB.out hx444_0
      replace hx444_1 := zU HB.out hx444_1
      replace p444 := eq_true p444
      replace q444 := eq_true q444
      have p445 : 0 ≤ (x4_1 : Int) := of_decide_eq_true za
      have q445 : x4_1 < (l0.length : Int) := of_decide_eq_true za
      obtain ⟨ad445, e445, hx445_0, hx445_1⟩ := at_T40 HR0.out x4_1 p445 q445
      obtain rfl : ad444 = ad445 := (by injection e445)
      replace hx445_0 := zU HB.out hx445_0
      replace hx445_1 := zU HB.out hx445_1
      replace p445 := eq_true p445
      replace q445 := eq_true q445
      go_wp2
      repeat (go_quiet (fail); try go_wp2)
      go_roundg k1
      case measure => have := HK1.out; omega
      case rel => exact ⟨(wrap64 ((wrap64 ((wrap64 (x3_1 + ((rd_T40 l0 x4_1).f1))) - ((rd_T40 l0 x4_1).f0))) + 1)), (wrap64 (x4_1 + 1)), zf, zf, H', ⟨by have := HK1.out; omega⟩, ⟨zw HB⟩⟩
     ·rw [if_neg c6] at H
      exact absurd H (by simp)
    ·rw [if_neg c5] at H
     have c5b0 : decide (x4_1 < (l0.length : Int)) = false := decide_eq_false c5
     clear c5
     obtain rfl := Option.some.inj H
     go_wp2
     repeat (go_quiet (fail); try go_wp2)
     go_ret
     exact ⟨ze, zw HB⟩
 ·replace c3 := Bool.eq_false_iff.mpr c3
  subst c3
  rw [if_neg (show ¬ (false = true) by decide)] at H
  obtain rfl := Option.some.inj H
  go_enter Tryd.func23, Tryd.ntmps23
  go_wp2_with (first | (go_at_call 21; (with_reducible refine (spec_SetOk.calls k _ _ l0 false _ ?side1 ?side2 A2.out).mono ?_); (case side1 => exact zI HR0.out); (case side2 => exact HC0.out); rintro e w7 ⟨rfl, hb⟩; replace HB := zs HB hb; clear hb))
  repeat (go_quiet (first | (go_at_call 21; (with_reducible refine (spec_SetOk.calls k _ _ l0 false _ ?side1 ?side2 A2.out).mono ?_); (case side1 => exact zI HR0.out); (case side2 => exact HC0.out); rintro e w7 ⟨rfl, hb⟩; replace HB := zs HB hb; clear hb)); try go_wp2_with (first | (go_at_call 21; (with_reducible refine (spec_SetOk.calls k _ _ l0 false _ ?side1 ?side2 A2.out).mono ?_); (case side1 => exact zI HR0.out); (case side2 => exact HC0.out); rintro e w7 ⟨rfl, hb⟩; replace HB := zs HB hb; clear hb)))
  go_ret
  exact ⟨ze, zw HB⟩

end Go.Proofs.YthngecooaddddaaDoor.PFnSetsTold
