import Derived.Test.YthngecooaddddaaDoorQFnSetsToldx0
import Derived.Test.YthngecooaddddaaDoorQFnSetsToldx2
namespace Go.Proofs.YthngecooaddddaaDoor.PFnSetsTold
open Go.RowKit Go.Proofs.YthngecooaddddaaDoorW.PrintWords Go.Proofs.YthngecooaddddaaDoorW.PrintLast Go.Proofs.YthngecooaddddaaDoorW.PrintMore
attribute [local go_sem] max2_int min2_int max_two min_two max_three min_three max_four min_four   -- for this text's walks alone
set_option linter.unusedVariables false
set_option linter.unusedSimpArgs false

/-! ### spec_SetOk: function 21 -/
def spec_SetOk.l0 : Nat → List (S40) → Int → Option (Bool)
 | 0, _, _ => none
 | k + 1, x0, x3 => if x3 < (x0.length : Int) then (if 0 ≤ x3 then ((spec_l01In.f ((rd_T40 x0 x3).f0) 1 ((rd_T40 x0 x3).f1)).bind fun t129 => (if t129 = true then (if ((rd_T40 x0 x3).f1) > 9999 then (some false) else (if x3 > 0 then (if 0 ≤ (wrap64 (x3 - 1)) then (if (wrap64 (x3 - 1)) < (x0.length : Int) then (if ((rd_T40 x0 x3).f0) ≤ (wrap64 (((rd_T40 x0 (wrap64 (x3 - 1))).f1) + 1)) then (some false) else (spec_SetOk.l0 k x0 (wrap64 (x3 + 1)))) else (none)) else (none)) else (spec_SetOk.l0 k x0 (wrap64 (x3 + 1))))) else (some false))) else (none)) else (some (decide ((x0.length : Int) ≤ 40)))
def spec_SetOk.f (k : Nat) (l0 : List (S40)) : Option (Bool) := spec_SetOk.l0 k l0 0
theorem spec_SetOk.mono_l : ∀ k, (∀ y0 y1, LeO (spec_SetOk.l0 k y0 y1) (spec_SetOk.l0 (k + 1) y0 y1))
 | 0 => fun _ _ r h => by simp [spec_SetOk.l0] at h
 | k + 1 => by
  have ih0 := spec_SetOk.mono_l k
  ·intro y0 y1
   unfold spec_SetOk.l0
   repeat' first
   | (with_reducible exact ih0 _ _)
   | (with_reducible exact LeO.refl _)
   | (with_reducible exact LeO.none _)
   | (with_reducible refine LeO.ite ?_ ?_)
   | (with_reducible refine LeO.bind ?_ (fun _ => ?_))
   | exact ih0 _ _
   | exact LeO.none _
   | refine LeO.ite ?_ ?_
   | refine LeO.bind ?_ (fun _ => ?_)
theorem spec_SetOk.mono : ∀ a0 k, LeO (spec_SetOk.f k a0) (spec_SetOk.f (k + 1) a0) := by
 intro a0 k
 have ih0 := spec_SetOk.mono_l k
 unfold spec_SetOk.f
 repeat' first
   | (with_reducible exact ih0 _ _)
   | (with_reducible exact LeO.refl _)
   | (with_reducible exact LeO.none _)
   | (with_reducible refine LeO.ite ?_ ?_)
   | (with_reducible refine LeO.bind ?_ (fun _ => ?_))
   | exact ih0 _ _
   | exact LeO.none _
   | refine LeO.ite ?_ ?_
   | refine LeO.bind ?_ (fun _ => ?_)
def spec_SetOk.T4 : Bool × List (List Nat × List Nat) := (true, [([], []), ([], []), ([0, 1], [0, 1]), ([2], [2]), ([3], [3]), ([], []), ([], []), ([5, 6], [5, 6]), ([7], [7]), ([8], [8]), ([4, 9], [4, 9]), ([10], [10]), ([11, 10], [11]), ([12], [12]), ([12], [12]), ([13, 14, 12], [12, 13, 14]), ([15, 12], [12, 15]), ([16, 12], [12, 16]), ([17, 12], [12, 17]), ([12, 18], [12, 18]), ([19, 12], [19]), ([20], [20]), ([21, 20], [20, 21]), ([22, 20, 20], [20, 22]), ([23], [23]), ([23], [23]), ([24, 25, 23], [23, 24, 25]), ([26, 23], [23, 26]), ([27, 23], [23, 27]), ([23], [23]), ([23], [23]), ([30, 23], [23, 30]), ([29, 31, 23], [23, 29, 31]), ([32, 23], [23, 32]), ([33, 23], [23, 33]), ([34, 23], [23, 34]), ([28, 35, 23], [23, 28, 35]), ([23, 36, 20], [20, 23, 36]), ([20, 37], [20, 37])])
def spec_SetOk.B4 : List Nat := [0, 0, 3, 7, 15, 0, 0, 96, 224, 480, 1023, 2047, 4095, 8191, 8191, 32767, 65535, 131071, 262143, 524287, 1048575, 2097151, 4194303, 8388607, 16777215, 16777215, 67108863, 134217727, 268435455, 16777215, 16777215, 1090519039, 3774873599, 8069840895, 16659775487, 33839644671, 68719476735, 137438953471, 274877906943]
theorem spec_SetOk.tab4 : rtab .any (opsOf Tryd.f21 4) = spec_SetOk.T4 := by kernel_rfl
theorem spec_SetOk.bits4 : waitsOk spec_SetOk.T4.2 spec_SetOk.B4 = true := by kernel_rfl
abbrev q3_0 : Array Bool := #[false, false, false, false, false, false, false, false, false, false, false, false, false, false, false, false, false, false, false, false, false, false, false, false, false, false, false, false, false, false, false, false, false, false, false, false, false, false, false]
abbrev q3_1 : Array Bool := #[true, false, false, false, false, false, false, false, false, false, false, false, false, false, false, false, false, false, false, false, false, false, false, false, false, false, false, false, false, false, false, false, false, false, false, false, false, false, false]
abbrev q3_2 : Array Bool := #[true, true, false, false, false, false, false, false, false, false, false, false, false, false, false, false, false, false, false, false, false, false, false, false, false, false, false, false, false, false, false, false, false, false, false, false, false, false, false]
abbrev q3_3 : Array Bool := #[true, true, true, false, false, false, false, false, false, false, false, false, false, false, false, false, false, false, false, false, false, false, false, false, false, false, false, false, false, false, false, false, false, false, false, false, false, false, false]
abbrev q3_4 : Array Bool := #[true, true, true, true, false, false, false, false, false, false, false, false, false, false, false, false, false, false, false, false, false, false, false, false, false, false, false, false, false, false, false, false, false, false, false, false, false, false, false]
abbrev q3_5 : Array Bool := #[true, true, true, true, false, true, false, false, false, false, false, false, false, false, false, false, false, false, false, false, false, false, false, false, false, false, false, false, false, false, false, false, false, false, false, false, false, false, false]
abbrev q3_6 : Array Bool := #[true, true, true, true, false, true, true, false, false, false, false, false, false, false, false, false, false, false, false, false, false, false, false, false, false, false, false, false, false, false, false, false, false, false, false, false, false, false, false]
abbrev q3_7 : Array Bool := #[true, true, true, true, false, true, true, true, false, false, false, false, false, false, false, false, false, false, false, false, false, false, false, false, false, false, false, false, false, false, false, false, false, false, false, false, false, false, false]
abbrev q3_8 : Array Bool := #[true, true, true, true, false, true, true, true, true, false, false, false, false, false, false, false, false, false, false, false, false, false, false, false, false, false, false, false, false, false, false, false, false, false, false, false, false, false, false]
abbrev q3_9 : Array Bool := #[true, true, true, true, true, true, true, true, true, false, false, false, false, false, false, false, false, false, false, false, false, false, false, false, false, false, false, false, false, false, false, false, false, false, false, false, false, false, false]
abbrev q3_10 : Array Bool := #[true, true, true, true, true, true, true, true, true, true, false, false, false, false, false, false, false, false, false, false, false, false, false, false, false, false, false, false, false, false, false, false, false, false, false, false, false, false, false]
abbrev q3_11 : Array Bool := #[true, true, true, true, true, true, true, true, true, true, true, false, false, false, false, false, false, false, false, false, false, false, false, false, false, false, false, false, false, false, false, false, false, false, false, false, false, false, false]
abbrev q3_12 : Array Bool := #[true, true, true, true, true, true, true, true, true, true, true, true, false, false, false, false, false, false, false, false, false, false, false, false, false, false, false, false, false, false, false, false, false, false, false, false, false, false, false]
abbrev q3_13 : Array Bool := #[true, true, true, true, true, true, true, true, true, true, true, true, true, false, false, false, false, false, false, false, false, false, false, false, false, false, false, false, false, false, false, false, false, false, false, false, false, false, false]
abbrev q3_14 : Array Bool := #[true, true, true, true, true, true, true, true, true, true, true, true, true, true, false, false, false, false, false, false, false, false, false, false, false, false, false, false, false, false, false, false, false, false, false, false, false, false, false]
abbrev q3_15 : Array Bool := #[true, true, true, true, true, true, true, true, true, true, true, true, true, true, true, false, false, false, false, false, false, false, false, false, false, false, false, false, false, false, false, false, false, false, false, false, false, false, false]
abbrev q3_16 : Array Bool := #[true, true, true, true, true, true, true, true, true, true, true, true, true, true, true, true, false, false, false, false, false, false, false, false, false, false, false, false, false, false, false, false, false, false, false, false, false, false, false]
abbrev q3_17 : Array Bool := #[true, true, true, true, true, true, true, true, true, true, true, true, true, true, true, true, true, false, false, false, false, false, false, false, false, false, false, false, false, false, false, false, false, false, false, false, false, false, false]
abbrev q3_18 : Array Bool := #[true, true, true, true, true, true, true, true, true, true, true, true, true, true, true, true, true, true, false, false, false, false, false, false, false, false, false, false, false, false, false, false, false, false, false, false, false, false, false]
abbrev q3_19 : Array Bool := #[true, true, true, true, true, true, true, true, true, true, true, true, true, true, true, true, true, true, true, false, false, false, false, false, false, false, false, false, false, false, false, false, false, false, false, false, false, false, false]
abbrev q3_20 : Array Bool := #[true, true, true, true, true, true, true, true, true, true, true, true, true, true, true, true, true, true, true, true, false, false, false, false, false, false, false, false, false, false, false, false, false, false, false, false, false, false, false]
abbrev q3_21 : Array Bool := #[true, true, true, true, true, true, true, true, true, true, true, true, true, true, true, true, true, true, true, true, true, false, false, false, false, false, false, false, false, false, false, false, false, false, false, false, false, false, false]
abbrev q3_22 : Array Bool := #[true, true, true, true, true, true, true, true, true, true, true, true, true, true, true, true, true, true, true, true, true, true, false, false, false, false, false, false, false, false, false, false, false, false, false, false, false, false, false]
abbrev q3_23 : Array Bool := #[true, true, true, true, true, true, true, true, true, true, true, true, true, true, true, true, true, true, true, true, true, true, true, false, false, false, false, false, false, false, false, false, false, false, false, false, false, false, false]
abbrev q3_24 : Array Bool := #[true, true, true, true, true, true, true, true, true, true, true, true, true, true, true, true, true, true, true, true, true, true, true, true, false, false, false, false, false, false, false, false, false, false, false, false, false, false, false]
abbrev q3_25 : Array Bool := #[true, true, true, true, true, true, true, true, true, true, true, true, true, true, true, true, true, true, true, true, true, true, true, true, true, false, false, false, false, false, false, false, false, false, false, false, false, false, false]
abbrev q3_26 : Array Bool := #[true, true, true, true, true, true, true, true, true, true, true, true, true, true, true, true, true, true, true, true, true, true, true, true, true, true, false, false, false, false, false, false, false, false, false, false, false, false, false]
abbrev q3_27 : Array Bool := #[true, true, true, true, true, true, true, true, true, true, true, true, true, true, true, true, true, true, true, true, true, true, true, true, true, true, true, false, false, false, false, false, false, false, false, false, false, false, false]
abbrev q3_28 : Array Bool := #[true, true, true, true, true, true, true, true, true, true, true, true, true, true, true, true, true, true, true, true, true, true, true, true, true, true, true, true, false, false, false, false, false, false, false, false, false, false, false]
abbrev q3_29 : Array Bool := #[true, true, true, true, true, true, true, true, true, true, true, true, true, true, true, true, true, true, true, true, true, true, true, true, true, true, true, true, true, false, false, false, false, false, false, false, false, false, false]
abbrev q3_30 : Array Bool := #[true, true, true, true, true, true, true, true, true, true, true, true, true, true, true, true, true, true, true, true, true, true, true, true, true, true, true, true, true, true, false, false, false, false, false, false, false, false, false]
abbrev q3_31 : Array Bool := #[true, true, true, true, true, true, true, true, true, true, true, true, true, true, true, true, true, true, true, true, true, true, true, true, true, true, true, true, true, true, true, false, false, false, false, false, false, false, false]
abbrev q3_32 : Array Bool := #[true, true, true, true, true, true, true, true, true, true, true, true, true, true, true, true, true, true, true, true, true, true, true, true, true, true, true, true, true, true, true, true, false, false, false, false, false, false, false]
abbrev q3_33 : Array Bool := #[true, true, true, true, true, true, true, true, true, true, true, true, true, true, true, true, true, true, true, true, true, true, true, true, true, true, true, true, true, true, true, true, true, false, false, false, false, false, false]
abbrev q3_34 : Array Bool := #[true, true, true, true, true, true, true, true, true, true, true, true, true, true, true, true, true, true, true, true, true, true, true, true, true, true, true, true, true, true, true, true, true, true, false, false, false, false, false]
abbrev q3_35 : Array Bool := #[true, true, true, true, true, true, true, true, true, true, true, true, true, true, true, true, true, true, true, true, true, true, true, true, true, true, true, true, true, true, true, true, true, true, true, false, false, false, false]
abbrev q3_36 : Array Bool := #[true, true, true, true, true, true, true, true, true, true, true, true, true, true, true, true, true, true, true, true, true, true, true, true, true, true, true, true, true, true, true, true, true, true, true, true, false, false, false]
abbrev q3_37 : Array Bool := #[true, true, true, true, true, true, true, true, true, true, true, true, true, true, true, true, true, true, true, true, true, true, true, true, true, true, true, true, true, true, true, true, true, true, true, true, true, false, false]
abbrev q3_38 : Array Bool := #[true, true, true, true, true, true, true, true, true, true, true, true, true, true, true, true, true, true, true, true, true, true, true, true, true, true, true, true, true, true, true, true, true, true, true, true, true, true, false]
abbrev q3_39 : Array Bool := #[true, true, true, true, true, true, true, true, true, true, true, true, true, true, true, true, true, true, true, true, true, true, true, true, true, true, true, true, true, true, true, true, true, true, true, true, true, true, true]
abbrev q3_40 : Array Bool := #[true, true, true, true, true, true, true, true, true, true, true, true, true, true, true, true, true, true, true, true, true, true, true, true, true, true, true, true, false, true, false, false, false, false, false, false, false, false, false]
abbrev q3_41 : Array Bool := #[true, true, true, true, true, true, true, true, true, true, true, true, true, true, true, true, true, true, true, true, true, true, true, true, true, true, true, true, false, true, true, false, false, false, false, false, false, false, false]
abbrev q3_42 : Array Bool := #[true, true, true, true, true, true, true, true, true, true, true, true, true, true, true, true, true, true, true, true, true, true, true, true, true, true, true, true, false, true, true, true, false, false, false, false, false, false, false]
abbrev q3_43 : Array Bool := #[true, true, true, true, true, true, true, true, true, true, true, true, true, true, true, true, true, true, true, true, true, true, true, true, true, true, true, true, false, true, true, true, true, false, false, false, false, false, false]
abbrev q3_44 : Array Bool := #[true, true, true, true, true, true, true, true, true, true, true, true, true, true, true, true, true, true, true, true, true, true, true, true, true, true, true, true, false, true, true, true, true, true, false, false, false, false, false]
set_option maxHeartbeats 8000000 in
set_option maxRecDepth 100000 in
theorem spec_SetOk.calls (k : Nat) (A0 : Option Addr) (c0 : Nat) (l0 : List (S40)) (r : Bool) (w : World) (hr0 : Kd.C k40 w A0 l0.length l0) (hc0 : l0.length ≤ c0) (h : spec_SetOk.f k l0 = some r) :
  Calls Tryd.prog 21 #[.slice A0 l0.length c0] w fun e w' => e = .returned (.bool r) ∧ Below w.heap.size w w' := by
 have HR0 := Aside0.mk hr0
 have HC0 := Aside0.mk hc0
 clear hr0 hc0
 have HB := Aside0.mk (Below.refl w.heap.size w)
 have H : (spec_SetOk.l0 k l0 0) = some r := h
 clear h
 have H' := Aside0.mk H
 clear H
 go_enter Tryd.func21, Tryd.ntmps21
 go_wp2
 go_loopg [3] k (fun kq v3 w' => ∃ (x3_1 : Int), v3 = .int .i64 x3_1 ∧ Aside0 (spec_SetOk.l0 kq l0 x3_1 = some r) ∧ Aside0 (kq ≤ k) ∧ Aside0 (Below w.heap.size w w'))
 case atStart => exact ⟨(0), zf, H', ⟨Nat.le_refl _⟩, ⟨zw HB⟩⟩
 case round =>
  clear H'
  obtain ⟨x3_1, rfl, HA, HK1, HB⟩ := hrel
  cases gk with
  | zero => exact absurd HA.out (by simp [spec_SetOk.l0])
  | succ k1 =>
   have H := HA.out
   clear HA
   simp only [spec_SetOk.l0] at H
   by_cases c2 : x3_1 < (l0.length : Int)
   ·rw [if_pos c2] at H
    have c2b0 : decide (x3_1 < (l0.length : Int)) = true := decide_eq_true c2
    clear c2
    by_cases c3 : 0 ≤ x3_1
    ·rw [if_pos c3] at H
     have c3b0 : decide (0 ≤ x3_1) = true := decide_eq_true c3
     clear c3
     replace H := Option.bind_eq_some_iff.mp H
     obtain ⟨t129, A40, H⟩ := H
     have A4 := Aside0.mk A40
     clear A40
     by_cases c5 : t129 = true
     ·subst c5
      rw [if_pos rfl] at H
      by_cases c6 : ((rd_T40 l0 x3_1).f1) > 9999
      ·rw [if_pos c6] at H
       have c6b0 : decide (9999 < ((rd_T40 l0 x3_1).f1)) = true := decide_eq_true c6
       clear c6
       obtain rfl := Option.some.inj H
       try go_wp2
       replace HB := Aside0.mk (below_drew1 HB.out)
       have p127 : 0 ≤ (x3_1 : Int) := of_decide_eq_true za
       have q127 : x3_1 < (l0.length : Int) := of_decide_eq_true za
       obtain ⟨ad127, e127, hx127_0, hx127_1⟩ := at_T40 HR0.out x3_1 p127 q127
       have hw127_1 := hx127_1
       have hw127_0 := hx127_0
       cases e127
       replace hx127_0 := zU HB.out hx127_0
       replace hx127_1 := zU HB.out hx127_1
       replace p127 := eq_true p127
       replace q127 := eq_true q127
       have p128 : 0 ≤ (x3_1 : Int) := of_decide_eq_true za
       have q128 : x3_1 < (l0.length : Int) := of_decide_eq_true za
       obtain ⟨ad128, e128, hx128_0, hx128_1⟩ := at_T40 HR0.out x3_1 p128 q128
       have hw128_1 := hx128_1
       have hw128_0 := hx128_0
       obtain rfl : ad127 = ad128 := (by injection e128)
       replace hx128_0 := zU HB.out hx128_0
       replace hx128_1 := zU HB.out hx128_1
       replace p128 := eq_true p128
       replace q128 := eq_true q128
       have p130 : 0 ≤ (x3_1 : Int) := of_decide_eq_true za
       have q130 : x3_1 < (l0.length : Int) := of_decide_eq_true za
       obtain ⟨ad130, e130, hx130_0, hx130_1⟩ := at_T40 HR0.out x3_1 p130 q130
       have hw130_1 := hx130_1
       have hw130_0 := hx130_0
       obtain rfl : ad127 = ad130 := (by injection e130)
       replace hx130_0 := zU HB.out hx130_0
       replace hx130_1 := zU HB.out hx130_1
       replace p130 := eq_true p130
       replace q130 := eq_true q130
       refine start_ (n := 39) (S := fun w' => w'.cell? (ad127.add ((x3_1).toNat * 2)) = some (.int .i64 ((rd_T40 l0 x3_1).f0)) ∧ w'.cell? ⟨(ad127.add ((x3_1).toNat * 2)).block, (ad127.add ((x3_1).toNat * 2)).off + 1, none⟩ = some (.int .i64 ((rd_T40 l0 x3_1).f1)) ∧ w'.cell? (ad127.add ((x3_1).toNat * 2)) = some (.int .i64 ((rd_T40 l0 x3_1).f0)) ∧ w'.cell? ⟨(ad127.add ((x3_1).toNat * 2)).block, (ad127.add ((x3_1).toNat * 2)).off + 1, none⟩ = some (.int .i64 ((rd_T40 l0 x3_1).f1)) ∧ w'.cell? (ad127.add ((x3_1).toNat * 2)) = some (.int .i64 ((rd_T40 l0 x3_1).f0)) ∧ w'.cell? ⟨(ad127.add ((x3_1).toNat * 2)).block, (ad127.add ((x3_1).toNat * 2)).off + 1, none⟩ = some (.int .i64 ((rd_T40 l0 x3_1).f1))) (ds := []) q3_0 (by kernel_rfl) rfl rfl ⟨(zU HB.out hw127_0), (zU HB.out hw127_1), (zU HB.out hw128_0), (zU HB.out hw128_1), (zU HB.out hw130_0), (zU HB.out hw130_1)⟩ (fun hHeld => ?_); refine with_tabW spec_SetOk.tab4 spec_SetOk.bits4 (fun HT_ HW_ => ?_)
       generalize wr.drew = w7 at HB hx127_0 hx127_1 hx128_0 hx128_1 hx130_0 hx130_1 hHeld ⊢
       refine zP 0 (some 10) q3_1 HT_ ?_
       refine zP 1 (some 11) q3_2 HT_ ?_
       refine zP 2 (some 12) q3_3 HT_ ?_
       refine zP 3 (some 13) q3_4 HT_ ?_
       refine zP 5 (some 15) q3_5 HT_ ?_
       refine zP 6 (some 16) q3_6 HT_ ?_
       refine zP 7 (some 17) q3_7 HT_ ?_
       refine zP 8 (some 18) q3_8 HT_ ?_
       refine zT 4 (some 14) q3_9 HT_ HW_ hHeld ?_
       refine zT 9 (some 19) q3_10 HT_ HW_ hHeld ?_
       refine one_ (i := 10) (N := some 20) q3_11 rfl rfl (one_of HT_.out (by kernel_rfl)) (by decide) (fun K hK => ?_)
       refine zH Tryd.func52 #[.int .i64 ((rd_T40 l0 x3_1).f0), .int .i64 1, .int .i64 ((rd_T40 l0 x3_1).f1)] ?_
       with_reducible refine (spec_l01In.calls ((rd_T40 l0 x3_1).f0) 1 ((rd_T40 l0 x3_1).f1) true _ A4.out).mono ?_
       rintro e w' ⟨rfl, ⟨nd, rfl⟩⟩
       refine ⟨_, rfl, ?_⟩
       refine hK.out _ _ ⟨(zU HB.out hw127_0), (zU HB.out hw127_1), (zU HB.out hw128_0), (zU HB.out hw128_1), (zU HB.out hw130_0), (zU HB.out hw130_1)⟩ (fun hHeld => ?_)
       clear hK K
       refine zN ?_
       refine zP 11 (some 21) q3_12 HT_ ?_
       refine zP 12 (some 22) q3_13 HT_ ?_
       refine zP 13 (some 23) q3_14 HT_ ?_
       refine zP 14 (some 24) q3_15 HT_ ?_
       refine zP 15 (some 25) q3_16 HT_ ?_
       refine zP 16 (some 26) q3_17 HT_ ?_
       refine zT 17 (some 27) q3_18 HT_ HW_ hHeld ?_
       refine zP 18 (some 28) q3_19 HT_ ?_
       refine zP 19 (some 29) q3_20 HT_ ?_
       refine zP 20 (some 30) q3_21 HT_ ?_
       refine zU_ 21 (some 31) q3_22 HT_ ?_
       refine zU_ 22 (some 32) q3_23 HT_ ?_
       refine zU_ 23 (some 33) q3_24 HT_ ?_
       refine zU_ 24 (some 34) q3_25 HT_ ?_
       refine zU_ 25 (some 35) q3_26 HT_ ?_
       refine zU_ 26 (some 36) q3_27 HT_ ?_
       refine zU_ 27 (some 37) q3_28 HT_ ?_
       refine zU_ 28 (some 38) q3_29 HT_ ?_
       refine zU_ 29 (some 39) q3_30 HT_ ?_
       refine zU_ 30 (some 40) q3_31 HT_ ?_
       refine zU_ 31 (some 41) q3_32 HT_ ?_
       refine zU_ 32 (some 42) q3_33 HT_ ?_
       refine zU_ 33 (some 43) q3_34 HT_ ?_
       refine zU_ 34 (some 44) q3_35 HT_ ?_
       refine zU_ 35 (some 45) q3_36 HT_ ?_
       refine zU_ 36 (some 46) q3_37 HT_ ?_
       refine zU_ 37 (some 47) q3_38 HT_ ?_
       refine zP 38 (some 48) q3_39 HT_ ?_
       refine done_ (done_of HT_.out (by kernel_rfl)) ?_
       try go_wp2
       go_ret
       exact ⟨ze, zw HB⟩
      ·rw [if_neg c6] at H
       have c6b0 : decide (9999 < ((rd_T40 l0 x3_1).f1)) = false := decide_eq_false c6
       clear c6
       by_cases c8 : x3_1 > 0
       ·rw [if_pos c8] at H
        have c8b0 : decide (0 < x3_1) = true := decide_eq_true c8
        clear c8
        obtain ⟨ji9, hji9⟩ : ∃ j_ : Int, (wrap64 (x3_1 - 1)) = j_ := ⟨_, rfl⟩
        replace H : (if 0 ≤ (ji9) then (if (ji9) < (l0.length : Int) then (if ((rd_T40 l0 x3_1).f0) ≤ (wrap64 (((rd_T40 l0 (ji9)).f1) + 1)) then (some false) else (spec_SetOk.l0 k1 l0 (wrap64 (x3_1 + 1)))) else (none)) else (none)) = some r := by first | (rw [hji9] at H; exact H) | (simp only [hji9] at H ⊢; exact H)
        (try rw [hji9] at A4)
        have hji9w : (IntKind.i64.wrap (x3_1 - 1)) = ji9 := (i64_w _).trans hji9
        by_cases c10 : 0 ≤ (ji9)
        ·rw [if_pos c10] at H
         have c10b0 : decide (0 ≤ (ji9)) = true := decide_eq_true c10
         clear c10
         by_cases c11 : (ji9) < (l0.length : Int)
         ·rw [if_pos c11] at H
          have c11b0 : decide ((ji9) < (l0.length : Int)) = true := decide_eq_true c11
          clear c11
          by_cases c12 : ((rd_T40 l0 x3_1).f0) ≤ (wrap64 (((rd_T40 l0 (ji9)).f1) + 1))
          ·rw [if_pos c12] at H
           have c12b0 : decide (((rd_T40 l0 x3_1).f0) ≤ (wrap64 (((rd_T40 l0 (ji9)).f1) + 1))) = true := decide_eq_true c12
           clear c12
           obtain rfl := Option.some.inj H
           try go_wp2
           replace HB := Aside0.mk (below_drew1 HB.out)
           have p127 : 0 ≤ (x3_1 : Int) := of_decide_eq_true za
           have q127 : x3_1 < (l0.length : Int) := of_decide_eq_true za
           obtain ⟨ad127, e127, hx127_0, hx127_1⟩ := at_T40 HR0.out x3_1 p127 q127
           have hw127_1 := hx127_1
           have hw127_0 := hx127_0
           cases e127
           replace hx127_0 := zU HB.out hx127_0
           replace hx127_1 := zU HB.out hx127_1
           replace p127 := eq_true p127
           replace q127 := eq_true q127
           have p128 : 0 ≤ (x3_1 : Int) := of_decide_eq_true za
           have q128 : x3_1 < (l0.length : Int) := of_decide_eq_true za
           obtain ⟨ad128, e128, hx128_0, hx128_1⟩ := at_T40 HR0.out x3_1 p128 q128
           have hw128_1 := hx128_1
           have hw128_0 := hx128_0
           obtain rfl : ad127 = ad128 := (by injection e128)
           replace hx128_0 := zU HB.out hx128_0
           replace hx128_1 := zU HB.out hx128_1
           replace p128 := eq_true p128
           replace q128 := eq_true q128
           have p130 : 0 ≤ (x3_1 : Int) := of_decide_eq_true za
           have q130 : x3_1 < (l0.length : Int) := of_decide_eq_true za
           obtain ⟨ad130, e130, hx130_0, hx130_1⟩ := at_T40 HR0.out x3_1 p130 q130
           have hw130_1 := hx130_1
           have hw130_0 := hx130_0
           obtain rfl : ad127 = ad130 := (by injection e130)
           replace hx130_0 := zU HB.out hx130_0
           replace hx130_1 := zU HB.out hx130_1
           replace p130 := eq_true p130
           replace q130 := eq_true q130
           have p131 : 0 ≤ (x3_1 : Int) := of_decide_eq_true za
           have q131 : x3_1 < (l0.length : Int) := of_decide_eq_true za
           obtain ⟨ad131, e131, hx131_0, hx131_1⟩ := at_T40 HR0.out x3_1 p131 q131
           have hw131_1 := hx131_1
           have hw131_0 := hx131_0
           obtain rfl : ad127 = ad131 := (by injection e131)
           replace hx131_0 := zU HB.out hx131_0
           replace hx131_1 := zU HB.out hx131_1
           replace p131 := eq_true p131
           replace q131 := eq_true q131
           have p132 : 0 ≤ ((ji9) : Int) := of_decide_eq_true za
           have q132 : (ji9) < (l0.length : Int) := of_decide_eq_true za
           obtain ⟨ad132, e132, hx132_0, hx132_1⟩ := at_T40 HR0.out (ji9) p132 q132
           have hw132_1 := hx132_1
           have hw132_0 := hx132_0
           obtain rfl : ad127 = ad132 := (by injection e132)
           replace hx132_0 := zU HB.out hx132_0
           replace hx132_1 := zU HB.out hx132_1
           replace p132 := eq_true p132
           replace q132 := eq_true q132
           refine start_ (n := 39) (S := fun w' => w'.cell? (ad127.add ((x3_1).toNat * 2)) = some (.int .i64 ((rd_T40 l0 x3_1).f0)) ∧ w'.cell? ⟨(ad127.add ((x3_1).toNat * 2)).block, (ad127.add ((x3_1).toNat * 2)).off + 1, none⟩ = some (.int .i64 ((rd_T40 l0 x3_1).f1)) ∧ w'.cell? (ad127.add ((x3_1).toNat * 2)) = some (.int .i64 ((rd_T40 l0 x3_1).f0)) ∧ w'.cell? ⟨(ad127.add ((x3_1).toNat * 2)).block, (ad127.add ((x3_1).toNat * 2)).off + 1, none⟩ = some (.int .i64 ((rd_T40 l0 x3_1).f1)) ∧ w'.cell? (ad127.add ((x3_1).toNat * 2)) = some (.int .i64 ((rd_T40 l0 x3_1).f0)) ∧ w'.cell? ⟨(ad127.add ((x3_1).toNat * 2)).block, (ad127.add ((x3_1).toNat * 2)).off + 1, none⟩ = some (.int .i64 ((rd_T40 l0 x3_1).f1)) ∧ w'.cell? (ad127.add ((x3_1).toNat * 2)) = some (.int .i64 ((rd_T40 l0 x3_1).f0)) ∧ w'.cell? ⟨(ad127.add ((x3_1).toNat * 2)).block, (ad127.add ((x3_1).toNat * 2)).off + 1, none⟩ = some (.int .i64 ((rd_T40 l0 x3_1).f1)) ∧ w'.cell? (ad127.add (((ji9)).toNat * 2)) = some (.int .i64 ((rd_T40 l0 (ji9)).f0)) ∧ w'.cell? ⟨(ad127.add (((ji9)).toNat * 2)).block, (ad127.add (((ji9)).toNat * 2)).off + 1, none⟩ = some (.int .i64 ((rd_T40 l0 (ji9)).f1))) (ds := []) q3_0 (by kernel_rfl) rfl rfl ⟨(zU HB.out hw127_0), (zU HB.out hw127_1), (zU HB.out hw128_0), (zU HB.out hw128_1), (zU HB.out hw130_0), (zU HB.out hw130_1), (zU HB.out hw131_0), (zU HB.out hw131_1), (zU HB.out hw132_0), (zU HB.out hw132_1)⟩ (fun hHeld => ?_); refine with_tabW spec_SetOk.tab4 spec_SetOk.bits4 (fun HT_ HW_ => ?_)
           generalize wr.drew = w13 at HB hx127_0 hx127_1 hx128_0 hx128_1 hx130_0 hx130_1 hx131_0 hx131_1 hx132_0 hx132_1 hHeld ⊢
           refine zP 0 (some 10) q3_1 HT_ ?_
           refine zP 1 (some 11) q3_2 HT_ ?_
           refine zP 2 (some 12) q3_3 HT_ ?_
           refine zP 3 (some 13) q3_4 HT_ ?_
           refine zP 5 (some 15) q3_5 HT_ ?_
           refine zP 6 (some 16) q3_6 HT_ ?_
           refine zP 7 (some 17) q3_7 HT_ ?_
           refine zP 8 (some 18) q3_8 HT_ ?_
           refine zT 4 (some 14) q3_9 HT_ HW_ hHeld ?_
           refine zT 9 (some 19) q3_10 HT_ HW_ hHeld ?_
           refine one_ (i := 10) (N := some 20) q3_11 rfl rfl (one_of HT_.out (by kernel_rfl)) (by decide) (fun K hK => ?_)
           refine zH Tryd.func52 #[.int .i64 ((rd_T40 l0 x3_1).f0), .int .i64 1, .int .i64 ((rd_T40 l0 x3_1).f1)] ?_
           with_reducible refine (spec_l01In.calls ((rd_T40 l0 x3_1).f0) 1 ((rd_T40 l0 x3_1).f1) true _ A4.out).mono ?_
           rintro e w' ⟨rfl, ⟨nd, rfl⟩⟩
           refine ⟨_, rfl, ?_⟩
           refine hK.out _ _ ⟨(zU HB.out hw127_0), (zU HB.out hw127_1), (zU HB.out hw128_0), (zU HB.out hw128_1), (zU HB.out hw130_0), (zU HB.out hw130_1), (zU HB.out hw131_0), (zU HB.out hw131_1), (zU HB.out hw132_0), (zU HB.out hw132_1)⟩ (fun hHeld => ?_)
           clear hK K
           refine zN ?_
           refine zP 11 (some 21) q3_12 HT_ ?_
           refine zP 12 (some 22) q3_13 HT_ ?_
           refine zP 13 (some 23) q3_14 HT_ ?_
           refine zP 14 (some 24) q3_15 HT_ ?_
           refine zP 15 (some 25) q3_16 HT_ ?_
           refine zP 16 (some 26) q3_17 HT_ ?_
           refine zT 17 (some 27) q3_18 HT_ HW_ hHeld ?_
           refine zP 18 (some 28) q3_19 HT_ ?_
           refine zP 19 (some 29) q3_20 HT_ ?_
           refine zP 20 (some 30) q3_21 HT_ ?_
           refine zP 21 (some 31) q3_22 HT_ ?_
           refine zP 22 (some 32) q3_23 HT_ ?_
           refine zP 23 (some 33) q3_24 HT_ ?_
           refine zP 24 (some 34) q3_25 HT_ ?_
           refine zP 25 (some 35) q3_26 HT_ ?_
           refine zP 26 (some 36) q3_27 HT_ ?_
           refine zP 27 (some 37) q3_28 HT_ ?_
           refine zP 29 (some 39) q3_40 HT_ ?_
           refine zP 30 (some 40) q3_41 HT_ ?_
           refine zP 31 (some 41) q3_42 HT_ ?_
           refine zP 32 (some 42) q3_43 HT_ ?_
           refine zP 33 (some 43) q3_44 HT_ ?_
           refine zT 28 (some 38) q3_34 HT_ HW_ hHeld ?_
           refine zT 34 (some 44) q3_35 HT_ HW_ hHeld ?_
           refine zP 35 (some 45) q3_36 HT_ ?_
           refine zP 36 (some 46) q3_37 HT_ ?_
           refine zP 37 (some 47) q3_38 HT_ ?_
           refine zP 38 (some 48) q3_39 HT_ ?_
           refine done_ (done_of HT_.out (by kernel_rfl)) ?_
           try go_wp2
           go_ret
           exact ⟨by first | rfl | (simp [errW_none, errW_some] <;> rfl) | (simp only [← hji9]; first | rfl | (simp [errW_none, errW_some] <;> rfl)) | (simp [*, errW_none, errW_some] <;> rfl), zw HB⟩
          ·rw [if_neg c12] at H
           have c12b0 : decide (((rd_T40 l0 x3_1).f0) ≤ (wrap64 (((rd_T40 l0 (ji9)).f1) + 1))) = false := decide_eq_false c12
           clear c12
           have H' := Aside0.mk H
           clear H
           try go_wp2
           replace HB := Aside0.mk (below_drew1 HB.out)
           have p127 : 0 ≤ (x3_1 : Int) := of_decide_eq_true za
           have q127 : x3_1 < (l0.length : Int) := of_decide_eq_true za
           obtain ⟨ad127, e127, hx127_0, hx127_1⟩ := at_T40 HR0.out x3_1 p127 q127
           have hw127_1 := hx127_1
           have hw127_0 := hx127_0
           cases e127
           replace hx127_0 := zU HB.out hx127_0
           replace hx127_1 := zU HB.out hx127_1
           replace p127 := eq_true p127
           replace q127 := eq_true q127
           have p128 : 0 ≤ (x3_1 : Int) := of_decide_eq_true za
           have q128 : x3_1 < (l0.length : Int) := of_decide_eq_true za
           obtain ⟨ad128, e128, hx128_0, hx128_1⟩ := at_T40 HR0.out x3_1 p128 q128
           have hw128_1 := hx128_1
           have hw128_0 := hx128_0
           obtain rfl : ad127 = ad128 := (by injection e128)
           replace hx128_0 := zU HB.out hx128_0
           replace hx128_1 := zU HB.out hx128_1
           replace p128 := eq_true p128
           replace q128 := eq_true q128
           have p130 : 0 ≤ (x3_1 : Int) := of_decide_eq_true za
           have q130 : x3_1 < (l0.length : Int) := of_decide_eq_true za
           obtain ⟨ad130, e130, hx130_0, hx130_1⟩ := at_T40 HR0.out x3_1 p130 q130
           have hw130_1 := hx130_1
           have hw130_0 := hx130_0
           obtain rfl : ad127 = ad130 := (by injection e130)
           replace hx130_0 := zU HB.out hx130_0
           replace hx130_1 := zU HB.out hx130_1
           replace p130 := eq_true p130
           replace q130 := eq_true q130
           have p131 : 0 ≤ (x3_1 : Int) := of_decide_eq_true za
           have q131 : x3_1 < (l0.length : Int) := of_decide_eq_true za
           obtain ⟨ad131, e131, hx131_0, hx131_1⟩ := at_T40 HR0.out x3_1 p131 q131
           have hw131_1 := hx131_1
           have hw131_0 := hx131_0
           obtain rfl : ad127 = ad131 := (by injection e131)
           replace hx131_0 := zU HB.out hx131_0
           replace hx131_1 := zU HB.out hx131_1
           replace p131 := eq_true p131
           replace q131 := eq_true q131
           have p132 : 0 ≤ ((ji9) : Int) := of_decide_eq_true za
           have q132 : (ji9) < (l0.length : Int) := of_decide_eq_true za
           obtain ⟨ad132, e132, hx132_0, hx132_1⟩ := at_T40 HR0.out (ji9) p132 q132
           have hw132_1 := hx132_1
           have hw132_0 := hx132_0
           obtain rfl : ad127 = ad132 := (by injection e132)
           replace hx132_0 := zU HB.out hx132_0
           replace hx132_1 := zU HB.out hx132_1
           replace p132 := eq_true p132
           replace q132 := eq_true q132
           refine start_ (n := 39) (S := fun w' => w'.cell? (ad127.add ((x3_1).toNat * 2)) = some (.int .i64 ((rd_T40 l0 x3_1).f0)) ∧ w'.cell? ⟨(ad127.add ((x3_1).toNat * 2)).block, (ad127.add ((x3_1).toNat * 2)).off + 1, none⟩ = some (.int .i64 ((rd_T40 l0 x3_1).f1)) ∧ w'.cell? (ad127.add ((x3_1).toNat * 2)) = some (.int .i64 ((rd_T40 l0 x3_1).f0)) ∧ w'.cell? ⟨(ad127.add ((x3_1).toNat * 2)).block, (ad127.add ((x3_1).toNat * 2)).off + 1, none⟩ = some (.int .i64 ((rd_T40 l0 x3_1).f1)) ∧ w'.cell? (ad127.add ((x3_1).toNat * 2)) = some (.int .i64 ((rd_T40 l0 x3_1).f0)) ∧ w'.cell? ⟨(ad127.add ((x3_1).toNat * 2)).block, (ad127.add ((x3_1).toNat * 2)).off + 1, none⟩ = some (.int .i64 ((rd_T40 l0 x3_1).f1)) ∧ w'.cell? (ad127.add ((x3_1).toNat * 2)) = some (.int .i64 ((rd_T40 l0 x3_1).f0)) ∧ w'.cell? ⟨(ad127.add ((x3_1).toNat * 2)).block, (ad127.add ((x3_1).toNat * 2)).off + 1, none⟩ = some (.int .i64 ((rd_T40 l0 x3_1).f1)) ∧ w'.cell? (ad127.add (((ji9)).toNat * 2)) = some (.int .i64 ((rd_T40 l0 (ji9)).f0)) ∧ w'.cell? ⟨(ad127.add (((ji9)).toNat * 2)).block, (ad127.add (((ji9)).toNat * 2)).off + 1, none⟩ = some (.int .i64 ((rd_T40 l0 (ji9)).f1))) (ds := []) q3_0 (by kernel_rfl) rfl rfl ⟨(zU HB.out hw127_0), (zU HB.out hw127_1), (zU HB.out hw128_0), (zU HB.out hw128_1), (zU HB.out hw130_0), (zU HB.out hw130_1), (zU HB.out hw131_0), (zU HB.out hw131_1), (zU HB.out hw132_0), (zU HB.out hw132_1)⟩ (fun hHeld => ?_); refine with_tabW spec_SetOk.tab4 spec_SetOk.bits4 (fun HT_ HW_ => ?_)
           generalize wr.drew = w14 at HB hx127_0 hx127_1 hx128_0 hx128_1 hx130_0 hx130_1 hx131_0 hx131_1 hx132_0 hx132_1 hHeld ⊢
           refine zP 0 (some 10) q3_1 HT_ ?_
           refine zP 1 (some 11) q3_2 HT_ ?_
           refine zP 2 (some 12) q3_3 HT_ ?_
           refine zP 3 (some 13) q3_4 HT_ ?_
           refine zP 5 (some 15) q3_5 HT_ ?_
           refine zP 6 (some 16) q3_6 HT_ ?_
           refine zP 7 (some 17) q3_7 HT_ ?_
           refine zP 8 (some 18) q3_8 HT_ ?_
           refine zT 4 (some 14) q3_9 HT_ HW_ hHeld ?_
           refine zT 9 (some 19) q3_10 HT_ HW_ hHeld ?_
           refine one_ (i := 10) (N := some 20) q3_11 rfl rfl (one_of HT_.out (by kernel_rfl)) (by decide) (fun K hK => ?_)
           refine zH Tryd.func52 #[.int .i64 ((rd_T40 l0 x3_1).f0), .int .i64 1, .int .i64 ((rd_T40 l0 x3_1).f1)] ?_
           with_reducible refine (spec_l01In.calls ((rd_T40 l0 x3_1).f0) 1 ((rd_T40 l0 x3_1).f1) true _ A4.out).mono ?_
           rintro e w' ⟨rfl, ⟨nd, rfl⟩⟩
           refine ⟨_, rfl, ?_⟩
           refine hK.out _ _ ⟨(zU HB.out hw127_0), (zU HB.out hw127_1), (zU HB.out hw128_0), (zU HB.out hw128_1), (zU HB.out hw130_0), (zU HB.out hw130_1), (zU HB.out hw131_0), (zU HB.out hw131_1), (zU HB.out hw132_0), (zU HB.out hw132_1)⟩ (fun hHeld => ?_)
           clear hK K
           refine zN ?_
           refine zP 11 (some 21) q3_12 HT_ ?_
           refine zP 12 (some 22) q3_13 HT_ ?_
           refine zP 13 (some 23) q3_14 HT_ ?_
           refine zP 14 (some 24) q3_15 HT_ ?_
           refine zP 15 (some 25) q3_16 HT_ ?_
           refine zP 16 (some 26) q3_17 HT_ ?_
           refine zT 17 (some 27) q3_18 HT_ HW_ hHeld ?_
           refine zP 18 (some 28) q3_19 HT_ ?_
           refine zP 19 (some 29) q3_20 HT_ ?_
           refine zP 20 (some 30) q3_21 HT_ ?_
           refine zP 21 (some 31) q3_22 HT_ ?_
           refine zP 22 (some 32) q3_23 HT_ ?_
           refine zP 23 (some 33) q3_24 HT_ ?_
           refine zP 24 (some 34) q3_25 HT_ ?_
           refine zP 25 (some 35) q3_26 HT_ ?_
           refine zP 26 (some 36) q3_27 HT_ ?_
           refine zP 27 (some 37) q3_28 HT_ ?_
           refine zP 29 (some 39) q3_40 HT_ ?_
           refine zP 30 (some 40) q3_41 HT_ ?_
           refine zP 31 (some 41) q3_42 HT_ ?_
           refine zP 32 (some 42) q3_43 HT_ ?_
           refine zP 33 (some 43) q3_44 HT_ ?_
           refine zT 28 (some 38) q3_34 HT_ HW_ hHeld ?_
           refine zT 34 (some 44) q3_35 HT_ HW_ hHeld ?_
           refine zP 35 (some 45) q3_36 HT_ ?_
           refine zP 36 (some 46) q3_37 HT_ ?_
           refine zP 37 (some 47) q3_38 HT_ ?_
           refine zP 38 (some 48) q3_39 HT_ ?_
           refine done_ (done_of HT_.out (by kernel_rfl)) ?_
           try go_wp2
           go_roundg k1
           case measure => have := HK1.out; omega
           case rel => exact ⟨(wrap64 (x3_1 + 1)), zf, H', ⟨by have := HK1.out; omega⟩, ⟨zw HB⟩⟩
         ·rw [if_neg c11] at H
          exact absurd H (by simp)
        ·rw [if_neg c10] at H
         exact absurd H (by simp)
       ·rw [if_neg c8] at H
        have c8b0 : decide (0 < x3_1) = false := decide_eq_false c8
        clear c8
        have H' := Aside0.mk H
        clear H
        try go_wp2
        replace HB := Aside0.mk (below_drew1 HB.out)
        have p127 : 0 ≤ (x3_1 : Int) := of_decide_eq_true za
        have q127 : x3_1 < (l0.length : Int) := of_decide_eq_true za
        obtain ⟨ad127, e127, hx127_0, hx127_1⟩ := at_T40 HR0.out x3_1 p127 q127
        have hw127_1 := hx127_1
        have hw127_0 := hx127_0
        cases e127
        replace hx127_0 := zU HB.out hx127_0
        replace hx127_1 := zU HB.out hx127_1
        replace p127 := eq_true p127
        replace q127 := eq_true q127
        have p128 : 0 ≤ (x3_1 : Int) := of_decide_eq_true za
        have q128 : x3_1 < (l0.length : Int) := of_decide_eq_true za
        obtain ⟨ad128, e128, hx128_0, hx128_1⟩ := at_T40 HR0.out x3_1 p128 q128
        have hw128_1 := hx128_1
        have hw128_0 := hx128_0
        obtain rfl : ad127 = ad128 := (by injection e128)
        replace hx128_0 := zU HB.out hx128_0
        replace hx128_1 := zU HB.out hx128_1
        replace p128 := eq_true p128
        replace q128 := eq_true q128
        have p130 : 0 ≤ (x3_1 : Int) := of_decide_eq_true za
        have q130 : x3_1 < (l0.length : Int) := of_decide_eq_true za
        obtain ⟨ad130, e130, hx130_0, hx130_1⟩ := at_T40 HR0.out x3_1 p130 q130
        have hw130_1 := hx130_1
        have hw130_0 := hx130_0
        obtain rfl : ad127 = ad130 := (by injection e130)
        replace hx130_0 := zU HB.out hx130_0
        replace hx130_1 := zU HB.out hx130_1
        replace p130 := eq_true p130
        replace q130 := eq_true q130
        refine start_ (n := 39) (S := fun w' => w'.cell? (ad127.add ((x3_1).toNat * 2)) = some (.int .i64 ((rd_T40 l0 x3_1).f0)) ∧ w'.cell? ⟨(ad127.add ((x3_1).toNat * 2)).block, (ad127.add ((x3_1).toNat * 2)).off + 1, none⟩ = some (.int .i64 ((rd_T40 l0 x3_1).f1)) ∧ w'.cell? (ad127.add ((x3_1).toNat * 2)) = some (.int .i64 ((rd_T40 l0 x3_1).f0)) ∧ w'.cell? ⟨(ad127.add ((x3_1).toNat * 2)).block, (ad127.add ((x3_1).toNat * 2)).off + 1, none⟩ = some (.int .i64 ((rd_T40 l0 x3_1).f1)) ∧ w'.cell? (ad127.add ((x3_1).toNat * 2)) = some (.int .i64 ((rd_T40 l0 x3_1).f0)) ∧ w'.cell? ⟨(ad127.add ((x3_1).toNat * 2)).block, (ad127.add ((x3_1).toNat * 2)).off + 1, none⟩ = some (.int .i64 ((rd_T40 l0 x3_1).f1))) (ds := []) q3_0 (by kernel_rfl) rfl rfl ⟨(zU HB.out hw127_0), (zU HB.out hw127_1), (zU HB.out hw128_0), (zU HB.out hw128_1), (zU HB.out hw130_0), (zU HB.out hw130_1)⟩ (fun hHeld => ?_); refine with_tabW spec_SetOk.tab4 spec_SetOk.bits4 (fun HT_ HW_ => ?_)
        generalize wr.drew = w15 at HB hx127_0 hx127_1 hx128_0 hx128_1 hx130_0 hx130_1 hHeld ⊢
        refine zP 0 (some 10) q3_1 HT_ ?_
        refine zP 1 (some 11) q3_2 HT_ ?_
        refine zP 2 (some 12) q3_3 HT_ ?_
        refine zP 3 (some 13) q3_4 HT_ ?_
        refine zP 5 (some 15) q3_5 HT_ ?_
        refine zP 6 (some 16) q3_6 HT_ ?_
        refine zP 7 (some 17) q3_7 HT_ ?_
        refine zP 8 (some 18) q3_8 HT_ ?_
        refine zT 4 (some 14) q3_9 HT_ HW_ hHeld ?_
        refine zT 9 (some 19) q3_10 HT_ HW_ hHeld ?_
        refine one_ (i := 10) (N := some 20) q3_11 rfl rfl (one_of HT_.out (by kernel_rfl)) (by decide) (fun K hK => ?_)
        refine zH Tryd.func52 #[.int .i64 ((rd_T40 l0 x3_1).f0), .int .i64 1, .int .i64 ((rd_T40 l0 x3_1).f1)] ?_
        with_reducible refine (spec_l01In.calls ((rd_T40 l0 x3_1).f0) 1 ((rd_T40 l0 x3_1).f1) true _ A4.out).mono ?_
        rintro e w' ⟨rfl, ⟨nd, rfl⟩⟩
        refine ⟨_, rfl, ?_⟩
        refine hK.out _ _ ⟨(zU HB.out hw127_0), (zU HB.out hw127_1), (zU HB.out hw128_0), (zU HB.out hw128_1), (zU HB.out hw130_0), (zU HB.out hw130_1)⟩ (fun hHeld => ?_)
        clear hK K
        refine zN ?_
        refine zP 11 (some 21) q3_12 HT_ ?_
        refine zP 12 (some 22) q3_13 HT_ ?_
        refine zP 13 (some 23) q3_14 HT_ ?_
        refine zP 14 (some 24) q3_15 HT_ ?_
        refine zP 15 (some 25) q3_16 HT_ ?_
        refine zP 16 (some 26) q3_17 HT_ ?_
        refine zT 17 (some 27) q3_18 HT_ HW_ hHeld ?_
        refine zP 18 (some 28) q3_19 HT_ ?_
        refine zP 19 (some 29) q3_20 HT_ ?_
        refine zP 20 (some 30) q3_21 HT_ ?_
        refine zP 21 (some 31) q3_22 HT_ ?_
        refine zP 22 (some 32) q3_23 HT_ ?_
        refine zP 23 (some 33) q3_24 HT_ ?_
        refine zU_ 24 (some 34) q3_25 HT_ ?_
        refine zU_ 25 (some 35) q3_26 HT_ ?_
        refine zU_ 26 (some 36) q3_27 HT_ ?_
        refine zU_ 27 (some 37) q3_28 HT_ ?_
        refine zU_ 28 (some 38) q3_29 HT_ ?_
        refine zU_ 29 (some 39) q3_30 HT_ ?_
        refine zU_ 30 (some 40) q3_31 HT_ ?_
        refine zU_ 31 (some 41) q3_32 HT_ ?_
        refine zU_ 32 (some 42) q3_33 HT_ ?_
        refine zU_ 33 (some 43) q3_34 HT_ ?_
        refine zU_ 34 (some 44) q3_35 HT_ ?_
        refine zU_ 35 (some 45) q3_36 HT_ ?_
        refine zU_ 36 (some 46) q3_37 HT_ ?_
        refine zP 37 (some 47) q3_38 HT_ ?_
        refine zP 38 (some 48) q3_39 HT_ ?_
        refine done_ (done_of HT_.out (by kernel_rfl)) ?_
        try go_wp2
        go_roundg k1
        case measure => have := HK1.out; omega
        case rel => exact ⟨(wrap64 (x3_1 + 1)), zf, H', ⟨by have := HK1.out; omega⟩, ⟨zw HB⟩⟩
     ·replace c5 := Bool.eq_false_iff.mpr c5
      subst c5
      rw [if_neg (show ¬ (false = true) by decide)] at H
      obtain rfl := Option.some.inj H
      try go_wp2
      replace HB := Aside0.mk (below_drew1 HB.out)
      have p127 : 0 ≤ (x3_1 : Int) := of_decide_eq_true za
      have q127 : x3_1 < (l0.length : Int) := of_decide_eq_true za
      obtain ⟨ad127, e127, hx127_0, hx127_1⟩ := at_T40 HR0.out x3_1 p127 q127
      have hw127_1 := hx127_1
      have hw127_0 := hx127_0
      cases e127
      replace hx127_0 := zU HB.out hx127_0
      replace hx127_1 := zU HB.out hx127_1
      replace p127 := eq_true p127
      replace q127 := eq_true q127
      have p128 : 0 ≤ (x3_1 : Int) := of_decide_eq_true za
      have q128 : x3_1 < (l0.length : Int) := of_decide_eq_true za
      obtain ⟨ad128, e128, hx128_0, hx128_1⟩ := at_T40 HR0.out x3_1 p128 q128
      have hw128_1 := hx128_1
      have hw128_0 := hx128_0
      obtain rfl : ad127 = ad128 := (by injection e128)
      replace hx128_0 := zU HB.out hx128_0
      replace hx128_1 := zU HB.out hx128_1
      replace p128 := eq_true p128
      replace q128 := eq_true q128
      refine start_ (n := 39) (S := fun w' => w'.cell? (ad127.add ((x3_1).toNat * 2)) = some (.int .i64 ((rd_T40 l0 x3_1).f0)) ∧ w'.cell? ⟨(ad127.add ((x3_1).toNat * 2)).block, (ad127.add ((x3_1).toNat * 2)).off + 1, none⟩ = some (.int .i64 ((rd_T40 l0 x3_1).f1)) ∧ w'.cell? (ad127.add ((x3_1).toNat * 2)) = some (.int .i64 ((rd_T40 l0 x3_1).f0)) ∧ w'.cell? ⟨(ad127.add ((x3_1).toNat * 2)).block, (ad127.add ((x3_1).toNat * 2)).off + 1, none⟩ = some (.int .i64 ((rd_T40 l0 x3_1).f1))) (ds := []) q3_0 (by kernel_rfl) rfl rfl ⟨(zU HB.out hw127_0), (zU HB.out hw127_1), (zU HB.out hw128_0), (zU HB.out hw128_1)⟩ (fun hHeld => ?_); refine with_tabW spec_SetOk.tab4 spec_SetOk.bits4 (fun HT_ HW_ => ?_)
      generalize wr.drew = w16 at HB hx127_0 hx127_1 hx128_0 hx128_1 hHeld ⊢
      refine zP 0 (some 10) q3_1 HT_ ?_
      refine zP 1 (some 11) q3_2 HT_ ?_
      refine zP 2 (some 12) q3_3 HT_ ?_
      refine zP 3 (some 13) q3_4 HT_ ?_
      refine zP 5 (some 15) q3_5 HT_ ?_
      refine zP 6 (some 16) q3_6 HT_ ?_
      refine zP 7 (some 17) q3_7 HT_ ?_
      refine zP 8 (some 18) q3_8 HT_ ?_
      refine zT 4 (some 14) q3_9 HT_ HW_ hHeld ?_
      refine zT 9 (some 19) q3_10 HT_ HW_ hHeld ?_
      refine one_ (i := 10) (N := some 20) q3_11 rfl rfl (one_of HT_.out (by kernel_rfl)) (by decide) (fun K hK => ?_)
      refine zH Tryd.func52 #[.int .i64 ((rd_T40 l0 x3_1).f0), .int .i64 1, .int .i64 ((rd_T40 l0 x3_1).f1)] ?_
      with_reducible refine (spec_l01In.calls ((rd_T40 l0 x3_1).f0) 1 ((rd_T40 l0 x3_1).f1) false _ A4.out).mono ?_
      rintro e w' ⟨rfl, ⟨nd, rfl⟩⟩
      refine ⟨_, rfl, ?_⟩
      refine hK.out _ _ ⟨(zU HB.out hw127_0), (zU HB.out hw127_1), (zU HB.out hw128_0), (zU HB.out hw128_1)⟩ (fun hHeld => ?_)
      clear hK K
      refine zN ?_
      refine zP 11 (some 21) q3_12 HT_ ?_
      refine zP 12 (some 22) q3_13 HT_ ?_
      refine zU_ 13 (some 23) q3_14 HT_ ?_
      refine zU_ 14 (some 24) q3_15 HT_ ?_
      refine zU_ 15 (some 25) q3_16 HT_ ?_
      refine zU_ 16 (some 26) q3_17 HT_ ?_
      refine zU_ 17 (some 27) q3_18 HT_ ?_
      refine zU_ 18 (some 28) q3_19 HT_ ?_
      refine zP 19 (some 29) q3_20 HT_ ?_
      refine zP 20 (some 30) q3_21 HT_ ?_
      refine zU_ 21 (some 31) q3_22 HT_ ?_
      refine zU_ 22 (some 32) q3_23 HT_ ?_
      refine zU_ 23 (some 33) q3_24 HT_ ?_
      refine zU_ 24 (some 34) q3_25 HT_ ?_
      refine zU_ 25 (some 35) q3_26 HT_ ?_
      refine zU_ 26 (some 36) q3_27 HT_ ?_
      refine zU_ 27 (some 37) q3_28 HT_ ?_
      refine zU_ 28 (some 38) q3_29 HT_ ?_
      refine zU_ 29 (some 39) q3_30 HT_ ?_
      refine zU_ 30 (some 40) q3_31 HT_ ?_
      refine zU_ 31 (some 41) q3_32 HT_ ?_
      refine zU_ 32 (some 42) q3_33 HT_ ?_
      refine zU_ 33 (some 43) q3_34 HT_ ?_
      refine zU_ 34 (some 44) q3_35 HT_ ?_
      refine zU_ 35 (some 45) q3_36 HT_ ?_
      refine zU_ 36 (some 46) q3_37 HT_ ?_
      refine zU_ 37 (some 47) q3_38 HT_ ?_
      refine zP 38 (some 48) q3_39 HT_ ?_
      refine done_ (done_of HT_.out (by kernel_rfl)) ?_
      try go_wp2
      go_ret
      exact ⟨ze, zw HB⟩
    ·rw [if_neg c3] at H
     exact absurd H (by simp)
   ·rw [if_neg c2] at H
    have c2b0 : decide (x3_1 < (l0.length : Int)) = false := decide_eq_false c2
    clear c2
    obtain rfl := Option.some.inj H
    go_wp2
    go_ret
    exact ⟨ze, zw HB⟩

end Go.Proofs.YthngecooaddddaaDoor.PFnSetsTold
