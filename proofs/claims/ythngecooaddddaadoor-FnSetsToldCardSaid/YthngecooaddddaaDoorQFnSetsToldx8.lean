import Derived.Test.YthngecooaddddaaDoorQFnSetsToldx0
import Derived.Test.YthngecooaddddaaDoorQFnSetsToldx2
import Derived.Test.YthngecooaddddaaDoorQFnSetsToldx3
import Derived.Test.YthngecooaddddaaDoorQFnSetsToldx5
import Derived.Test.YthngecooaddddaaDoorQFnSetsToldx6
import Derived.Test.YthngecooaddddaaDoorQFnSetsToldx7
namespace Go.Proofs.YthngecooaddddaaDoor.PFnSetsTold
open Go.RowKit Go.Proofs.YthngecooaddddaaDoorW.PrintWords Go.Proofs.YthngecooaddddaaDoorW.PrintLast Go.Proofs.YthngecooaddddaaDoorW.PrintMore
attribute [local go_sem] max2_int min2_int max_two min_two max_three min_three max_four min_four   -- for this text's walks alone
set_option linter.unusedVariables false
set_option linter.unusedSimpArgs false

/-! ### spec_SetText: function 26 -/
mutual
def spec_SetText.l0 : Nat → List (S40) → ByteArray → Int → Option (ByteArray)
 | 0, _, _, _ => none
 | k + 1, x0, x3, x4 => if x4 < (x0.length : Int) then (if x4 > 0 then (if x3.size + 1 ≤ 9223372036854775807 then (spec_SetText.j1 k x0 (x3 ++ (⟨#[44]⟩ : ByteArray)) x4) else (none)) else (spec_SetText.j1 k x0 x3 x4)) else (some x3)
def spec_SetText.j1 : Nat → List (S40) → ByteArray → Int → Option (ByteArray)
 | 0, _, _, _ => none
 | k + 1, x0, x3, x4 => if 0 ≤ x4 then (if x4 < (x0.length : Int) then ((spec_Decimal.f k ((rd_T40 x0 x4).f0)).bind fun t354 => (if x3.size + t354.size ≤ 9223372036854775807 then (if ((rd_T40 x0 x4).f1) > ((rd_T40 x0 x4).f0) then (if (x3 ++ t354).size + 1 ≤ 9223372036854775807 then ((spec_Decimal.f k ((rd_T40 x0 x4).f1)).bind fun t358 => (if ((x3 ++ t354) ++ (⟨#[58]⟩ : ByteArray)).size + t358.size ≤ 9223372036854775807 then (spec_SetText.l0 k x0 (((x3 ++ t354) ++ (⟨#[58]⟩ : ByteArray)) ++ t358) (wrap64 (x4 + 1))) else (none))) else (none)) else (spec_SetText.l0 k x0 (x3 ++ t354) (wrap64 (x4 + 1)))) else (none))) else (none)) else (none)
end
def spec_SetText.f (k : Nat) (l0 : List (S40)) : Option (ByteArray) := (spec_SetOk.f k l0).bind fun t352 => (if t352 = true then (spec_SetText.l0 k l0 (⟨#[]⟩ : ByteArray) 0) else (some (⟨#[]⟩ : ByteArray)))
theorem spec_SetText.mono_l : ∀ k, (∀ y0 y1 y2, LeO (spec_SetText.l0 k y0 y1 y2) (spec_SetText.l0 (k + 1) y0 y1 y2)) ∧ (∀ y0 y1 y2, LeO (spec_SetText.j1 k y0 y1 y2) (spec_SetText.j1 (k + 1) y0 y1 y2))
 | 0 => ⟨fun _ _ _ r h => by simp [spec_SetText.l0] at h, fun _ _ _ r h => by simp [spec_SetText.j1] at h⟩
 | k + 1 => by
  obtain ⟨ih0, ih1⟩ := spec_SetText.mono_l k
  refine ⟨?_, ?_⟩
  ·intro y0 y1 y2
   unfold spec_SetText.l0
   repeat' first
   | (with_reducible exact ih0 _ _ _)
   | (with_reducible exact ih1 _ _ _)
   | (with_reducible exact spec_Decimal.mono _ _)
   | (with_reducible exact spec_SetOk.mono _ _)
   | (with_reducible exact LeO.refl _)
   | (with_reducible exact LeO.none _)
   | (with_reducible refine LeO.ite ?_ ?_)
   | (with_reducible refine LeO.bind ?_ (fun _ => ?_))
   | exact ih0 _ _ _
   | exact ih1 _ _ _
   | exact spec_Decimal.mono _ _
   | exact spec_SetOk.mono _ _
   | exact LeO.none _
   | refine LeO.ite ?_ ?_
   | refine LeO.bind ?_ (fun _ => ?_)
  ·intro y0 y1 y2
   unfold spec_SetText.j1
   repeat' first
   | (with_reducible exact ih0 _ _ _)
   | (with_reducible exact ih1 _ _ _)
   | (with_reducible exact spec_Decimal.mono _ _)
   | (with_reducible exact spec_SetOk.mono _ _)
   | (with_reducible exact LeO.refl _)
   | (with_reducible exact LeO.none _)
   | (with_reducible refine LeO.ite ?_ ?_)
   | (with_reducible refine LeO.bind ?_ (fun _ => ?_))
   | exact ih0 _ _ _
   | exact ih1 _ _ _
   | exact spec_Decimal.mono _ _
   | exact spec_SetOk.mono _ _
   | exact LeO.none _
   | refine LeO.ite ?_ ?_
   | refine LeO.bind ?_ (fun _ => ?_)
theorem spec_SetText.mono : ∀ a0 k, LeO (spec_SetText.f k a0) (spec_SetText.f (k + 1) a0) := by
 intro a0 k
 obtain ⟨ih0, ih1⟩ := spec_SetText.mono_l k
 unfold spec_SetText.f
 repeat' first
   | (with_reducible exact ih0 _ _ _)
   | (with_reducible exact ih1 _ _ _)
   | (with_reducible exact spec_Decimal.mono _ _)
   | (with_reducible exact spec_SetOk.mono _ _)
   | (with_reducible exact LeO.refl _)
   | (with_reducible exact LeO.none _)
   | (with_reducible refine LeO.ite ?_ ?_)
   | (with_reducible refine LeO.bind ?_ (fun _ => ?_))
   | exact ih0 _ _ _
   | exact ih1 _ _ _
   | exact spec_Decimal.mono _ _
   | exact spec_SetOk.mono _ _
   | exact LeO.none _
   | refine LeO.ite ?_ ?_
   | refine LeO.bind ?_ (fun _ => ?_)
set_option maxHeartbeats 8000000 in
set_option maxRecDepth 100000 in
theorem spec_SetText.calls (k : Nat) (A0 : Option Addr) (c0 : Nat) (l0 : List (S40)) (r : ByteArray) (w : World) (hr0 : Kd.C k40 w A0 l0.length l0) (hc0 : l0.length ≤ c0) (h : spec_SetText.f k l0 = some r) :
  Calls Tryd.prog 26 #[.slice A0 l0.length c0] w fun e w' => e = .returned (.string r) ∧ Below w.heap.size w w' := by
 have HR0 := Aside0.mk hr0
 have HC0 := Aside0.mk hc0
 clear hr0 hc0
 have HB := Aside0.mk (Below.refl w.heap.size w)
 have H : ((spec_SetOk.f k l0).bind fun t352 => (if t352 = true then (spec_SetText.l0 k l0 (⟨#[]⟩ : ByteArray) 0) else (some (⟨#[]⟩ : ByteArray)))) = some r := h
 clear h
 replace H := Option.bind_eq_some_iff.mp H
 obtain ⟨t352, A20, H⟩ := H
 have A2 := Aside0.mk A20
 clear A20
 by_cases c3 : t352 = true
 ·subst c3
  rw [if_pos rfl] at H
  have H' := Aside0.mk H
  clear H
  go_enter Tryd.func26, Tryd.ntmps26
  go_wp2_with (first | (go_at_call 21; (with_reducible refine (spec_SetOk.calls k _ _ l0 true _ ?side1 ?side2 A2.out).mono ?_); (case side1 => exact zI HR0.out); (case side2 => exact HC0.out); rintro e w4 ⟨rfl, hb⟩; replace HB := zs HB hb; clear hb))
  repeat (go_quiet (first | (go_at_call 21; (with_reducible refine (spec_SetOk.calls k _ _ l0 true _ ?side1 ?side2 A2.out).mono ?_); (case side1 => exact zI HR0.out); (case side2 => exact HC0.out); rintro e w4 ⟨rfl, hb⟩; replace HB := zs HB hb; clear hb)); try go_wp2_with (first | (go_at_call 21; (with_reducible refine (spec_SetOk.calls k _ _ l0 true _ ?side1 ?side2 A2.out).mono ?_); (case side1 => exact zI HR0.out); (case side2 => exact HC0.out); rintro e w4 ⟨rfl, hb⟩; replace HB := zs HB hb; clear hb)))
  go_loopg [3, 4] k (fun kq v3 v4 w' => ∃ (x3_1 : ByteArray) (x4_1 : Int), v3 = .string x3_1 ∧ v4 = .int .i64 x4_1 ∧ Aside0 (spec_SetText.l0 kq l0 x3_1 x4_1 = some r) ∧ Aside0 (kq ≤ k) ∧ Aside0 (Below w.heap.size w w'))
  case atStart => exact ⟨((⟨#[]⟩ : ByteArray)), (0), zf, zf, H', ⟨Nat.le_refl _⟩, ⟨zw HB⟩⟩
  case round =>
   clear H'
   try clear c2
   try clear p2
   try clear c3
   obtain ⟨x3_1, x4_1, rfl, rfl, HA, HK1, HB⟩ := hrel
   cases gk with
   | zero => exact absurd HA.out (by simp [spec_SetText.l0])
   | succ k1 =>
    have H := HA.out
    clear HA
    simp only [spec_SetText.l0] at H
    by_cases c5 : x4_1 < (l0.length : Int)
    ·rw [if_pos c5] at H
     have c5b0 : decide (x4_1 < (l0.length : Int)) = true := decide_eq_true c5
     clear c5
     have HC6 := Aside0.mk H
     clear H
     go_upto_if 15 with (fail)
     repeat (go_quiet (fail); go_upto_if 15 with (fail))
     go_cut [3] (fun v3 wc => ∃ (kq : Nat) (x3_5 : ByteArray), v3 = .string x3_5 ∧ Aside0 (spec_SetText.j1 kq l0 x3_5 x4_1 = some r) ∧ Aside0 (kq ≤ k1) ∧ Aside0 (Below w.heap.size w wc))
     case first =>
      have H := HC6.out
      clear HC6
      by_cases c7 : x4_1 > 0
      ·rw [if_pos c7] at H
       have c7b0 : decide (0 < x4_1) = true := decide_eq_true c7
       clear c7
       (first | rw [c7b0] | (simp only [i64_w, i32_w]; rw [c7b0]) | skip)
       by_cases c8 : x3_1.size + 1 ≤ 9223372036854775807
       ·rw [if_pos c8] at H
        have c8b0 := eq_true c8
        have c8b1 : decide (x3_1.size + 1 ≤ 9223372036854775807) = true := decide_eq_true c8
        try have c8b2 : (9223372036854775807 < x3_1.size + 1) = False := eq_false (Nat.not_lt.2 c8)
        have H' := Aside0.mk H
        clear H
        go_wp2
        repeat (go_quiet (fail); try go_wp2)
        go_meet
        case rel => exact ⟨_, (x3_1 ++ (⟨#[44]⟩ : ByteArray)), zf, H', ⟨by have := HK1.out; first | omega | exact Nat.le_refl _⟩, ⟨zw HB⟩⟩
       ·rw [if_neg c8] at H
        exact absurd H (by simp)
      ·rw [if_neg c7] at H
       have c7b0 : decide (0 < x4_1) = false := decide_eq_false c7
       clear c7
       (first | rw [c7b0] | (simp only [i64_w, i32_w]; rw [c7b0]) | skip)
       have H' := Aside0.mk H
       clear H
       go_wp2
       repeat (go_quiet (fail); try go_wp2)
       go_meet
       case rel => exact ⟨_, (x3_1), zf, H', ⟨by have := HK1.out; first | omega | exact Nat.le_refl _⟩, ⟨zw HB⟩⟩
     case rest =>
      clear HC6
      try clear c2
      try clear p2
      try clear c3
      try clear c5
      try clear c5b0
      try clear c7
      try clear c7b0
      try clear c8
      try clear c8b0
      try clear c8b1
      try clear c8b2
      try clear p2
      obtain ⟨kq, x3_5, rfl, HA, HJ5, HB⟩ := hcut
      cases kq with
      | zero => exact absurd HA.out (by simp [spec_SetText.j1])
      | succ kj5 =>
       have H := HA.out
       clear HA
       simp only [spec_SetText.j1] at H
       by_cases c9 : 0 ≤ x4_1
       ·rw [if_pos c9] at H
        have c9b0 : decide (0 ≤ x4_1) = true := decide_eq_true c9
        clear c9
        by_cases c10 : x4_1 < (l0.length : Int)
        ·rw [if_pos c10] at H
         have c10b0 : decide (x4_1 < (l0.length : Int)) = true := decide_eq_true c10
         clear c10
         replace H := Option.bind_eq_some_iff.mp H
         obtain ⟨t354, A110, H⟩ := H
         have A11 := Aside0.mk A110
         clear A110
         by_cases c12 : x3_5.size + t354.size ≤ 9223372036854775807
         ·rw [if_pos c12] at H
          have c12b0 := eq_true c12
          have c12b1 : decide (x3_5.size + t354.size ≤ 9223372036854775807) = true := decide_eq_true c12
          try have c12b2 : (9223372036854775807 < x3_5.size + t354.size) = False := eq_false (Nat.not_lt.2 c12)
          by_cases c13 : ((rd_T40 l0 x4_1).f1) > ((rd_T40 l0 x4_1).f0)
          ·rw [if_pos c13] at H
           have c13b0 : decide (((rd_T40 l0 x4_1).f0) < ((rd_T40 l0 x4_1).f1)) = true := decide_eq_true c13
           clear c13
           by_cases c14 : (x3_5 ++ t354).size + 1 ≤ 9223372036854775807
           ·rw [if_pos c14] at H
            have c14b0 := eq_true c14
            have c14b1 : decide ((x3_5 ++ t354).size + 1 ≤ 9223372036854775807) = true := decide_eq_true c14
            try have c14b2 : (9223372036854775807 < (x3_5 ++ t354).size + 1) = False := eq_false (Nat.not_lt.2 c14)
            try have c14b3 : (9223372036854775807 < x3_5.size + t354.size + 1) = False := eq_false (Nat.not_lt.2 (by have h_ := c14; simp only [ByteArray.size_append] at h_; exact h_))
            replace H := Option.bind_eq_some_iff.mp H
            obtain ⟨t358, A150, H⟩ := H
            have A15 := Aside0.mk A150
            clear A150
            by_cases c16 : ((x3_5 ++ t354) ++ (⟨#[58]⟩ : ByteArray)).size + t358.size ≤ 9223372036854775807
            ·rw [if_pos c16] at H
             have c16b0 := eq_true c16
             have c16b1 : decide (((x3_5 ++ t354) ++ (⟨#[58]⟩ : ByteArray)).size + t358.size ≤ 9223372036854775807) = true := decide_eq_true c16
             try have c16b2 : (9223372036854775807 < ((x3_5 ++ t354) ++ (⟨#[58]⟩ : ByteArray)).size + t358.size) = False := eq_false (Nat.not_lt.2 c16)
             try have c16b3 : (9223372036854775807 < x3_5.size + t354.size + 1 + t358.size) = False := eq_false (Nat.not_lt.2 (by have h_ := c16; simp only [ByteArray.size_append] at h_; exact h_))
             have H' := Aside0.mk H
             clear H
             have p353 : 0 ≤ (x4_1 : Int) := of_decide_eq_true za
             have q353 : x4_1 < (l0.length : Int) := of_decide_eq_true za
             obtain ⟨ad353, e353, hx353_0, hx353_1⟩ := at_T40 HR0.out x4_1 p353 q353
             cases e353
             replace hx353_0 := zU HB.out hx353_0
             replace hx353_1 := zU HB.out hx353_1
             replace p353 := eq_true p353
             replace q353 := eq_true q353
             go_wp2_with (first | (go_at_call 58; (with_reducible refine (spec_Decimal.calls kj5 ((rd_T40 l0 x4_1).f0) t354 _ A11.out).mono ?_); rintro e w17 ⟨rfl, hb⟩; replace HB := zs HB hb; clear hb; have p355 : 0 ≤ (x4_1 : Int) := of_decide_eq_true za; have q355 : x4_1 < (l0.length : Int) := of_decide_eq_true za; obtain ⟨ad355, e355, hx355_0, hx355_1⟩ := at_T40 HR0.out x4_1 p355 q355; obtain rfl : ad353 = ad355 := (by injection e355); replace hx355_0 := zU HB.out hx355_0; replace hx355_1 := zU HB.out hx355_1; replace p355 := eq_true p355; replace q355 := eq_true q355; have p356 : 0 ≤ (x4_1 : Int) := of_decide_eq_true za; have q356 : x4_1 < (l0.length : Int) := of_decide_eq_true za; obtain ⟨ad356, e356, hx356_0, hx356_1⟩ := at_T40 HR0.out x4_1 p356 q356; obtain rfl : ad353 = ad356 := (by injection e356); replace hx356_0 := zU HB.out hx356_0; replace hx356_1 := zU HB.out hx356_1; replace p356 := eq_true p356; replace q356 := eq_true q356; have p357 : 0 ≤ (x4_1 : Int) := of_decide_eq_true za; have q357 : x4_1 < (l0.length : Int) := of_decide_eq_true za; obtain ⟨ad357, e357, hx357_0, hx357_1⟩ := at_T40 HR0.out x4_1 p357 q357; obtain rfl : ad353 = ad357 := (by injection e357); replace hx357_0 := zU HB.out hx357_0; replace hx357_1 := zU HB.out hx357_1; replace p357 := eq_true p357; replace q357 := eq_true q357) | (go_at_call 58; (with_reducible refine (spec_Decimal.calls kj5 ((rd_T40 l0 x4_1).f1) t358 _ A15.out).mono ?_); rintro e w18 ⟨rfl, hb⟩; replace HB := zs HB hb; clear hb))
             repeat (go_quiet (first | (go_at_call 58; (with_reducible refine (spec_Decimal.calls kj5 ((rd_T40 l0 x4_1).f0) t354 _ A11.out).mono ?_); rintro e w17 ⟨rfl, hb⟩; replace HB := zs HB hb; clear hb; have p355 : 0 ≤ (x4_1 : Int) := of_decide_eq_true za; have q355 : x4_1 < (l0.length : Int) := of_decide_eq_true za; obtain ⟨ad355, e355, hx355_0, hx355_1⟩ := at_T40 HR0.out x4_1 p355 q355; obtain rfl : ad353 = ad355 := (by injection e355); replace hx355_0 := zU HB.out hx355_0; replace hx355_1 := zU HB.out hx355_1; replace p355 := eq_true p355; replace q355 := eq_true q355; have p356 : 0 ≤ (x4_1 : Int) := of_decide_eq_true za; have q356 : x4_1 < (l0.length : Int) := of_decide_eq_true za; obtain ⟨ad356, e356, hx356_0, hx356_1⟩ := at_T40 HR0.out x4_1 p356 q356; obtain rfl : ad353 = ad356 := (by injection e356); replace hx356_0 := zU HB.out hx356_0; replace hx356_1 := zU HB.out hx356_1; replace p356 := eq_true p356; replace q356 := eq_true q356; have p357 : 0 ≤ (x4_1 : Int) := of_decide_eq_true za; have q357 : x4_1 < (l0.length : Int) := of_decide_eq_true za; obtain ⟨ad357, e357, hx357_0, hx357_1⟩ := at_T40 HR0.out x4_1 p357 q357; obtain rfl : ad353 = ad357 := (by injection e357); replace hx357_0 := zU HB.out hx357_0; replace hx357_1 := zU HB.out hx357_1; replace p357 := eq_true p357; replace q357 := eq_true q357) | (go_at_call 58; (with_reducible refine (spec_Decimal.calls kj5 ((rd_T40 l0 x4_1).f1) t358 _ A15.out).mono ?_); rintro e w18 ⟨rfl, hb⟩; replace HB := zs HB hb; clear hb)); try go_wp2_with (first | (go_at_call 58; (with_reducible refine (spec_Decimal.calls kj5 ((rd_T40 l0 x4_1).f0) t354 _ A11.out).mono ?_); rintro e w17 ⟨rfl, hb⟩; replace HB := zs HB hb; clear hb; have p355 : 0 ≤ (x4_1 : Int) := of_decide_eq_true za; have q355 : x4_1 < (l0.length : Int) := of_decide_eq_true za; obtain ⟨ad355, e355, hx355_0, hx355_1⟩ := at_T40 HR0.out x4_1 p355 q355; obtain rfl : ad353 = ad355 := (by injection e355); replace hx355_0 := zU HB.out hx355_0; replace hx355_1 := zU HB.out hx355_1; replace p355 := eq_true p355; replace q355 := eq_true q355; have p356 : 0 ≤ (x4_1 : Int) := of_decide_eq_true za; have q356 : x4_1 < (l0.length : Int) := of_decide_eq_true za; obtain ⟨ad356, e356, hx356_0, hx356_1⟩ := at_T40 HR0.out x4_1 p356 q356; obtain rfl : ad353 = ad356 := (by injection e356); replace hx356_0 := zU HB.out hx356_0; replace hx356_1 := zU HB.out hx356_1; replace p356 := eq_true p356; replace q356 := eq_true q356; have p357 : 0 ≤ (x4_1 : Int) := of_decide_eq_true za; have q357 : x4_1 < (l0.length : Int) := of_decide_eq_true za; obtain ⟨ad357, e357, hx357_0, hx357_1⟩ := at_T40 HR0.out x4_1 p357 q357; obtain rfl : ad353 = ad357 := (by injection e357); replace hx357_0 := zU HB.out hx357_0; replace hx357_1 := zU HB.out hx357_1; replace p357 := eq_true p357; replace q357 := eq_true q357) | (go_at_call 58; (with_reducible refine (spec_Decimal.calls kj5 ((rd_T40 l0 x4_1).f1) t358 _ A15.out).mono ?_); rintro e w18 ⟨rfl, hb⟩; replace HB := zs HB hb; clear hb)))
             go_roundg kj5
             case measure => have := HK1.out; have := HJ5.out; omega
             case rel => exact ⟨(((x3_5 ++ t354) ++ (⟨#[58]⟩ : ByteArray)) ++ t358), (wrap64 (x4_1 + 1)), zf, zf, H', ⟨by have := HK1.out; have := HJ5.out; omega⟩, ⟨zw HB⟩⟩
            ·rw [if_neg c16] at H
             exact absurd H (by simp)
           ·rw [if_neg c14] at H
            exact absurd H (by simp)
          ·rw [if_neg c13] at H
           have c13b0 : decide (((rd_T40 l0 x4_1).f0) < ((rd_T40 l0 x4_1).f1)) = false := decide_eq_false c13
           clear c13
           have H' := Aside0.mk H
           clear H
           have p353 : 0 ≤ (x4_1 : Int) := of_decide_eq_true za
           have q353 : x4_1 < (l0.length : Int) := of_decide_eq_true za
           obtain ⟨ad353, e353, hx353_0, hx353_1⟩ := at_T40 HR0.out x4_1 p353 q353
           cases e353
           replace hx353_0 := zU HB.out hx353_0
           replace hx353_1 := zU HB.out hx353_1
           replace p353 := eq_true p353
           replace q353 := eq_true q353
           go_wp2_with (first | (go_at_call 58; (with_reducible refine (spec_Decimal.calls kj5 ((rd_T40 l0 x4_1).f0) t354 _ A11.out).mono ?_); rintro e w19 ⟨rfl, hb⟩; replace HB := zs HB hb; clear hb; have p355 : 0 ≤ (x4_1 : Int) := of_decide_eq_true za; have q355 : x4_1 < (l0.length : Int) := of_decide_eq_true za; obtain ⟨ad355, e355, hx355_0, hx355_1⟩ := at_T40 HR0.out x4_1 p355 q355; obtain rfl : ad353 = ad355 := (by injection e355); replace hx355_0 := zU HB.out hx355_0; replace hx355_1 := zU HB.out hx355_1; replace p355 := eq_true p355; replace q355 := eq_true q355; have p356 : 0 ≤ (x4_1 : Int) := of_decide_eq_true za; have q356 : x4_1 < (l0.length : Int) := of_decide_eq_true za; obtain ⟨ad356, e356, hx356_0, hx356_1⟩ := at_T40 HR0.out x4_1 p356 q356; obtain rfl : ad353 = ad356 := (by injection e356); replace hx356_0 := zU HB.out hx356_0; replace hx356_1 := zU HB.out hx356_1; replace p356 := eq_true p356; replace q356 := eq_true q356))
           repeat (go_quiet (first | (go_at_call 58; (with_reducible refine (spec_Decimal.calls kj5 ((rd_T40 l0 x4_1).f0) t354 _ A11.out).mono ?_); rintro e w19 ⟨rfl, hb⟩; replace HB := zs HB hb; clear hb; have p355 : 0 ≤ (x4_1 : Int) := of_decide_eq_true za; have q355 : x4_1 < (l0.length : Int) := of_decide_eq_true za; obtain ⟨ad355, e355, hx355_0, hx355_1⟩ := at_T40 HR0.out x4_1 p355 q355; obtain rfl : ad353 = ad355 := (by injection e355); replace hx355_0 := zU HB.out hx355_0; replace hx355_1 := zU HB.out hx355_1; replace p355 := eq_true p355; replace q355 := eq_true q355; have p356 : 0 ≤ (x4_1 : Int) := of_decide_eq_true za; have q356 : x4_1 < (l0.length : Int) := of_decide_eq_true za; obtain ⟨ad356, e356, hx356_0, hx356_1⟩ := at_T40 HR0.out x4_1 p356 q356; obtain rfl : ad353 = ad356 := (by injection e356); replace hx356_0 := zU HB.out hx356_0; replace hx356_1 := zU HB.out hx356_1; replace p356 := eq_true p356; replace q356 := eq_true q356)); try go_wp2_with (first | (go_at_call 58; (with_reducible refine (spec_Decimal.calls kj5 ((rd_T40 l0 x4_1).f0) t354 _ A11.out).mono ?_); rintro e w19 ⟨rfl, hb⟩; replace HB := zs HB hb; clear hb; have p355 : 0 ≤ (x4_1 : Int) := of_decide_eq_true za; have q355 : x4_1 < (l0.length : Int) := of_decide_eq_true za; obtain ⟨ad355, e355, hx355_0, hx355_1⟩ := at_T40 HR0.out x4_1 p355 q355; obtain rfl : ad353 = ad355 := (by injection e355); replace hx355_0 := zU HB.out hx355_0; replace hx355_1 := zU HB.out hx355_1; replace p355 := eq_true p355; replace q355 := eq_true q355; have p356 : 0 ≤ (x4_1 : Int) := of_decide_eq_true za; have q356 : x4_1 < (l0.length : Int) := of_decide_eq_true za; obtain ⟨ad356, e356, hx356_0, hx356_1⟩ := at_T40 HR0.out x4_1 p356 q356; obtain rfl : ad353 = ad356 := (by injection e356); replace hx356_0 := zU HB.out hx356_0; replace hx356_1 := zU HB.out hx356_1; replace p356 := eq_true p356; replace q356 := eq_true q356)))
           go_roundg kj5
           case measure => have := HK1.out; have := HJ5.out; omega
           case rel => exact ⟨(x3_5 ++ t354), (wrap64 (x4_1 + 1)), zf, zf, H', ⟨by have := HK1.out; have := HJ5.out; omega⟩, ⟨zw HB⟩⟩
         ·rw [if_neg c12] at H
          exact absurd H (by simp)
        ·rw [if_neg c10] at H
         exact absurd H (by simp)
       ·rw [if_neg c9] at H
        exact absurd H (by simp)
    ·rw [if_neg c5] at H
     have c5b0 : decide (x4_1 < (l0.length : Int)) = false := decide_eq_false c5
     clear c5
     obtain rfl := Option.some.inj H
     go_wp2
     repeat (go_quiet (fail); try go_wp2)
     go_ret
     exact ⟨ze, zw HB⟩
 ·replace c3 := Bool.eq_false_iff.mpr c3
  subst c3
  rw [if_neg (show ¬ (false = true) by decide)] at H
  obtain rfl := Option.some.inj H
  go_enter Tryd.func26, Tryd.ntmps26
  go_wp2_with (first | (go_at_call 21; (with_reducible refine (spec_SetOk.calls k _ _ l0 false _ ?side1 ?side2 A2.out).mono ?_); (case side1 => exact zI HR0.out); (case side2 => exact HC0.out); rintro e w20 ⟨rfl, hb⟩; replace HB := zs HB hb; clear hb))
  repeat (go_quiet (first | (go_at_call 21; (with_reducible refine (spec_SetOk.calls k _ _ l0 false _ ?side1 ?side2 A2.out).mono ?_); (case side1 => exact zI HR0.out); (case side2 => exact HC0.out); rintro e w20 ⟨rfl, hb⟩; replace HB := zs HB hb; clear hb)); try go_wp2_with (first | (go_at_call 21; (with_reducible refine (spec_SetOk.calls k _ _ l0 false _ ?side1 ?side2 A2.out).mono ?_); (case side1 => exact zI HR0.out); (case side2 => exact HC0.out); rintro e w20 ⟨rfl, hb⟩; replace HB := zs HB hb; clear hb)))
  go_ret
  exact ⟨ze, zw HB⟩

/-! ### spec_l01Pick: function 46 -/
def spec_l01Pick.f (s0_0 : List Int) (s0_1 : Int) (s0_2 : Int) (l1 : List ByteArray) : Option (ByteArray × Int × Int) := (spec_l01Below.f s0_0 s0_1 s0_2 (l1.length : Int)).bind fun bt359 => (if 0 ≤ bt359.1 then (if bt359.1 < (l1.length : Int) then (some (rdOf ByteArray.empty l1 bt359.1, bt359.2.1, bt359.2.2)) else (none)) else (none))
set_option maxHeartbeats 8000000 in
set_option maxRecDepth 100000 in
theorem spec_l01Pick.calls (g : Nat) (s0_0 : List Int) (s0_1 : Int) (s0_2 : Int) (A1 : Option Addr) (c1 : Nat) (l1 : List ByteArray) (r1 : ByteArray) (r2 : Int) (r3 : Int) (w0 w : World) (hI : IsS78 w0 w g s0_0 s0_1 s0_2) (hB : Below w0.heap.size w0 w) (hr1 : Kd.C Kd.string w A1 l1.length l1) (hc1 : l1.length ≤ c1) (hf1 : ∀ ad, A1 = some ad → 0 < l1.length → ad.block ≠ g) (h : spec_l01Pick.f s0_0 s0_1 s0_2 l1 = some (r1, r2, r3)) :
  Calls Tryd.prog 46 #[.pointer (some ⟨g, 0, none⟩), .slice A1 l1.length c1] w fun e w' => e = .returned (.string r1) ∧ IsS78 w0 w' g s0_0 r2 r3 ∧ Below w0.heap.size w0 w' ∧ KeepBut w w' g none := by
 have HR1 := Aside0.mk hr1
 have HC1 := Aside0.mk hc1
 clear hr1 hc1
 have HI0 := Aside0.mk hI
 have HK := Aside0.mk (KeepBut.refl w g none)
 have HL := Aside0.mk hB.size
 clear hI
 have HW0 := Aside0.mk hB.size
 have HB := Aside0.mk hB
 clear hB
 have H : ((spec_l01Below.f s0_0 s0_1 s0_2 (l1.length : Int)).bind fun bt359 => (if 0 ≤ bt359.1 then (if bt359.1 < (l1.length : Int) then (some (rdOf ByteArray.empty l1 bt359.1, bt359.2.1, bt359.2.2)) else (none)) else (none))) = some (r1, r2, r3) := h
 clear h
 replace H := Option.bind_eq_some_iff.mp H
 obtain ⟨⟨t359, t360, t361⟩, A30, H⟩ := H
 replace H : (if 0 ≤ t359 then (if t359 < (l1.length : Int) then (some (rdOf ByteArray.empty l1 t359, t360, t361)) else (none)) else (none)) = some (r1, r2, r3) := H
 have A3 := Aside0.mk A30
 clear A30
 by_cases c4 : 0 ≤ t359
 ·rw [if_pos c4] at H
  have c4b0 : decide (0 ≤ t359) = true := decide_eq_true c4
  clear c4
  by_cases c5 : t359 < (l1.length : Int)
  ·rw [if_pos c5] at H
   have c5b0 : decide (t359 < (l1.length : Int)) = true := decide_eq_true c5
   clear c5
   simp only [Option.some.injEq, Prod.mk.injEq] at H
   obtain ⟨rfl, rfl, rfl⟩ := H
   go_enter Tryd.func46, Tryd.ntmps46
   go_wp2_with (first | ((with_reducible refine gate_callee (f := 47) rfl ?_); refine zG (some 9) Tryd.func47 #[.pointer (some ⟨g, 0, none⟩), .int .i64 (l1.length : Int)] ?_; (with_reducible refine (spec_l01Below.calls g s0_0 s0_1 s0_2 (l1.length : Int) t359 t360 t361 w0 _ ?side1 ?side2 A3.out).mono ?_); (case side1 => exact yI HI0); (case side2 => exact yw HB); rintro e w6 ⟨rfl, hi, hb, hk⟩; refine ⟨_, rfl, ?_⟩; replace HK := Aside0.mk (KeepBut.trans (by repeat (first | (with_reducible first | exact HK.out | apply KeepBut.set_ | apply keep_drewN | apply keep_drew | apply keep_alloc) | exact HK.out)) hk (.inl rfl)); replace HB := Aside0.mk (hb); replace HI0 := Aside0.mk (hi); clear hi hb hk; have p362 : 0 ≤ (t359 : Int) := of_decide_eq_true za; have q362 : t359 < (l1.length : Int) := of_decide_eq_true za; obtain ⟨ad362, e362, hx362_0⟩ := Kd.at_string HR1.out t359 p362 q362; cases e362; replace hx362_0 := keep_cell HK.out hx362_0 (by first | (rw [add_block]; exact hf1 _ rfl (by omega)) | exact hf1 _ rfl (by omega) | exact hf1 ad362 rfl (by omega)); replace p362 := eq_true p362; replace q362 := eq_true q362))
   go_ret
   exact ⟨ze, yI HI0, yw HB, by repeat (first | (with_reducible first | exact HK.out | apply KeepBut.set_ | apply keep_drewN | apply keep_drew | apply keep_alloc) | exact HK.out)⟩
  ·rw [if_neg c5] at H
   exact absurd H (by simp)
 ·rw [if_neg c4] at H
  exact absurd H (by simp)

/-! ### spec_DrawReadSet: function 16 -/
def spec_DrawReadSet.f (k : Nat) (l0 : List Int) : Option (ByteArray × Int) := (spec_l01New.f k l0).bind fun bt363 => ((spec_l01PickInt.f bt363.1 bt363.2.1 bt363.2.2 (([1, 5, 9999, 0, 10000] : List Int))).bind fun bt370 => ((spec_l01Pick.f bt363.1 bt370.2.1 bt370.2.2 (([(⟨#[]⟩ : ByteArray), (⟨#[42]⟩ : ByteArray), (⟨#[53, 58, 42]⟩ : ByteArray), (⟨#[42, 58, 51]⟩ : ByteArray), (⟨#[55, 44, 49, 44, 50]⟩ : ByteArray), (⟨#[51, 58, 49]⟩ : ByteArray), (⟨#[48]⟩ : ByteArray), (⟨#[49, 58]⟩ : ByteArray), (⟨#[44]⟩ : ByteArray), (⟨#[49, 48, 48, 48, 48]⟩ : ByteArray), (⟨#[49, 44, 44, 50]⟩ : ByteArray), (⟨#[52, 58, 120]⟩ : ByteArray), (⟨#[48, 48, 49, 50]⟩ : ByteArray), (⟨#[48, 48, 48, 49, 50]⟩ : ByteArray), (⟨#[50, 58, 50, 44, 51]⟩ : ByteArray)] : List ByteArray))).bind fun bt376 => ((spec_l01Below.f bt363.1 bt376.2.1 bt376.2.2 3).bind fun bt379 => ((spec_l05Any.f k bt363.1 bt379.2.1 bt379.2.2).bind fun bt382 => ((spec_SetText.f k bt382.1).bind fun t387 => (if bt379.1 = 0 then (some (bt376.1, bt370.1)) else (if bt379.1 = 1 then (if t387.size + 1 ≤ 9223372036854775807 then (if (t387 ++ (⟨#[44]⟩ : ByteArray)).size + bt376.1.size ≤ 9223372036854775807 then (some ((t387 ++ (⟨#[44]⟩ : ByteArray)) ++ bt376.1, bt370.1)) else (none)) else (none)) else (some (t387, bt370.1)))))))))
theorem spec_DrawReadSet.mono : ∀ a0 k, LeO (spec_DrawReadSet.f k a0) (spec_DrawReadSet.f (k + 1) a0) := by
 intro a0 k
 unfold spec_DrawReadSet.f
 repeat' first
   | (with_reducible exact spec_SetText.mono _ _)
   | (with_reducible exact spec_l01New.mono _ _)
   | (with_reducible exact spec_l05Any.mono _ _ _ _)
   | (with_reducible exact LeO.refl _)
   | (with_reducible exact LeO.none _)
   | (with_reducible refine LeO.ite ?_ ?_)
   | (with_reducible refine LeO.bind ?_ (fun _ => ?_))
   | exact spec_SetText.mono _ _
   | exact spec_l01New.mono _ _
   | exact spec_l05Any.mono _ _ _ _
   | exact LeO.none _
   | refine LeO.ite ?_ ?_
   | refine LeO.bind ?_ (fun _ => ?_)
set_option maxHeartbeats 8000000 in
set_option maxRecDepth 100000 in
theorem spec_DrawReadSet.calls (k : Nat) (A0 : Option Addr) (c0 : Nat) (l0 : List Int) (r1 : ByteArray) (r2 : Int) (w : World) (hr0 : Kd.C (Kd.int .u8) w A0 l0.length l0) (hc0 : l0.length ≤ c0) (h : spec_DrawReadSet.f k l0 = some (r1, r2)) :
  Calls Tryd.prog 16 #[.slice A0 l0.length c0] w fun e w' => e = .returned (.tuple #[.string r1, .int .i64 r2]) ∧ Below w.heap.size w w' := by
 have HR0 := Aside0.mk hr0
 have HC0 := Aside0.mk hc0
 clear hr0 hc0
 have HB := Aside0.mk (Below.refl w.heap.size w)
 have H : ((spec_l01New.f k l0).bind fun bt363 => ((spec_l01PickInt.f bt363.1 bt363.2.1 bt363.2.2 (([1, 5, 9999, 0, 10000] : List Int))).bind fun bt370 => ((spec_l01Pick.f bt363.1 bt370.2.1 bt370.2.2 (([(⟨#[]⟩ : ByteArray), (⟨#[42]⟩ : ByteArray), (⟨#[53, 58, 42]⟩ : ByteArray), (⟨#[42, 58, 51]⟩ : ByteArray), (⟨#[55, 44, 49, 44, 50]⟩ : ByteArray), (⟨#[51, 58, 49]⟩ : ByteArray), (⟨#[48]⟩ : ByteArray), (⟨#[49, 58]⟩ : ByteArray), (⟨#[44]⟩ : ByteArray), (⟨#[49, 48, 48, 48, 48]⟩ : ByteArray), (⟨#[49, 44, 44, 50]⟩ : ByteArray), (⟨#[52, 58, 120]⟩ : ByteArray), (⟨#[48, 48, 49, 50]⟩ : ByteArray), (⟨#[48, 48, 48, 49, 50]⟩ : ByteArray), (⟨#[50, 58, 50, 44, 51]⟩ : ByteArray)] : List ByteArray))).bind fun bt376 => ((spec_l01Below.f bt363.1 bt376.2.1 bt376.2.2 3).bind fun bt379 => ((spec_l05Any.f k bt363.1 bt379.2.1 bt379.2.2).bind fun bt382 => ((spec_SetText.f k bt382.1).bind fun t387 => (if bt379.1 = 0 then (some (bt376.1, bt370.1)) else (if bt379.1 = 1 then (if t387.size + 1 ≤ 9223372036854775807 then (if (t387 ++ (⟨#[44]⟩ : ByteArray)).size + bt376.1.size ≤ 9223372036854775807 then (some ((t387 ++ (⟨#[44]⟩ : ByteArray)) ++ bt376.1, bt370.1)) else (none)) else (none)) else (some (t387, bt370.1)))))))))) = some (r1, r2) := h
 clear h
 replace H := Option.bind_eq_some_iff.mp H
 obtain ⟨⟨t363, t364, t365⟩, A20, H⟩ := H
 replace H : ((spec_l01PickInt.f t363 t364 t365 (([1, 5, 9999, 0, 10000] : List Int))).bind fun bt370 => ((spec_l01Pick.f t363 bt370.2.1 bt370.2.2 (([(⟨#[]⟩ : ByteArray), (⟨#[42]⟩ : ByteArray), (⟨#[53, 58, 42]⟩ : ByteArray), (⟨#[42, 58, 51]⟩ : ByteArray), (⟨#[55, 44, 49, 44, 50]⟩ : ByteArray), (⟨#[51, 58, 49]⟩ : ByteArray), (⟨#[48]⟩ : ByteArray), (⟨#[49, 58]⟩ : ByteArray), (⟨#[44]⟩ : ByteArray), (⟨#[49, 48, 48, 48, 48]⟩ : ByteArray), (⟨#[49, 44, 44, 50]⟩ : ByteArray), (⟨#[52, 58, 120]⟩ : ByteArray), (⟨#[48, 48, 49, 50]⟩ : ByteArray), (⟨#[48, 48, 48, 49, 50]⟩ : ByteArray), (⟨#[50, 58, 50, 44, 51]⟩ : ByteArray)] : List ByteArray))).bind fun bt376 => ((spec_l01Below.f t363 bt376.2.1 bt376.2.2 3).bind fun bt379 => ((spec_l05Any.f k t363 bt379.2.1 bt379.2.2).bind fun bt382 => ((spec_SetText.f k bt382.1).bind fun t387 => (if bt379.1 = 0 then (some (bt376.1, bt370.1)) else (if bt379.1 = 1 then (if t387.size + 1 ≤ 9223372036854775807 then (if (t387 ++ (⟨#[44]⟩ : ByteArray)).size + bt376.1.size ≤ 9223372036854775807 then (some ((t387 ++ (⟨#[44]⟩ : ByteArray)) ++ bt376.1, bt370.1)) else (none)) else (none)) else (some (t387, bt370.1))))))))) = some (r1, r2) := H
 have A2 := Aside0.mk A20
 clear A20
 obtain ⟨y367, hy367⟩ : ∃ y_ : List Int, y_ = (([1, 5, 9999, 0, 10000] : List Int)) := ⟨_, rfl⟩
 replace H : ((spec_l01PickInt.f t363 t364 t365 y367).bind fun bt370 => ((spec_l01Pick.f t363 bt370.2.1 bt370.2.2 (([(⟨#[]⟩ : ByteArray), (⟨#[42]⟩ : ByteArray), (⟨#[53, 58, 42]⟩ : ByteArray), (⟨#[42, 58, 51]⟩ : ByteArray), (⟨#[55, 44, 49, 44, 50]⟩ : ByteArray), (⟨#[51, 58, 49]⟩ : ByteArray), (⟨#[48]⟩ : ByteArray), (⟨#[49, 58]⟩ : ByteArray), (⟨#[44]⟩ : ByteArray), (⟨#[49, 48, 48, 48, 48]⟩ : ByteArray), (⟨#[49, 44, 44, 50]⟩ : ByteArray), (⟨#[52, 58, 120]⟩ : ByteArray), (⟨#[48, 48, 49, 50]⟩ : ByteArray), (⟨#[48, 48, 48, 49, 50]⟩ : ByteArray), (⟨#[50, 58, 50, 44, 51]⟩ : ByteArray)] : List ByteArray))).bind fun bt376 => ((spec_l01Below.f t363 bt376.2.1 bt376.2.2 3).bind fun bt379 => ((spec_l05Any.f k t363 bt379.2.1 bt379.2.2).bind fun bt382 => ((spec_SetText.f k bt382.1).bind fun t387 => (if bt379.1 = 0 then (some (bt376.1, bt370.1)) else (if bt379.1 = 1 then (if t387.size + 1 ≤ 9223372036854775807 then (if (t387 ++ (⟨#[44]⟩ : ByteArray)).size + bt376.1.size ≤ 9223372036854775807 then (some ((t387 ++ (⟨#[44]⟩ : ByteArray)) ++ bt376.1, bt370.1)) else (none)) else (none)) else (some (t387, bt370.1))))))))) = some (r1, r2) := by first | (rw [hy367]; with_reducible exact H) | (have H2_ := (Option.bind_some _ _).symm.trans H; rw [hy367]; with_reducible exact H2_) | (have H2_ := (Option.bind_some _ _).symm.trans H; with_reducible exact H2_) | with_reducible exact H | (rw [hy367]; exact H) | exact H
 have Ny367 := Aside0.mk hy367
 clear hy367
 replace H := Option.bind_eq_some_iff.mp H
 obtain ⟨⟨t370, t371, t372⟩, A30, H⟩ := H
 replace H : ((spec_l01Pick.f t363 t371 t372 (([(⟨#[]⟩ : ByteArray), (⟨#[42]⟩ : ByteArray), (⟨#[53, 58, 42]⟩ : ByteArray), (⟨#[42, 58, 51]⟩ : ByteArray), (⟨#[55, 44, 49, 44, 50]⟩ : ByteArray), (⟨#[51, 58, 49]⟩ : ByteArray), (⟨#[48]⟩ : ByteArray), (⟨#[49, 58]⟩ : ByteArray), (⟨#[44]⟩ : ByteArray), (⟨#[49, 48, 48, 48, 48]⟩ : ByteArray), (⟨#[49, 44, 44, 50]⟩ : ByteArray), (⟨#[52, 58, 120]⟩ : ByteArray), (⟨#[48, 48, 49, 50]⟩ : ByteArray), (⟨#[48, 48, 48, 49, 50]⟩ : ByteArray), (⟨#[50, 58, 50, 44, 51]⟩ : ByteArray)] : List ByteArray))).bind fun bt376 => ((spec_l01Below.f t363 bt376.2.1 bt376.2.2 3).bind fun bt379 => ((spec_l05Any.f k t363 bt379.2.1 bt379.2.2).bind fun bt382 => ((spec_SetText.f k bt382.1).bind fun t387 => (if bt379.1 = 0 then (some (bt376.1, t370)) else (if bt379.1 = 1 then (if t387.size + 1 ≤ 9223372036854775807 then (if (t387 ++ (⟨#[44]⟩ : ByteArray)).size + bt376.1.size ≤ 9223372036854775807 then (some ((t387 ++ (⟨#[44]⟩ : ByteArray)) ++ bt376.1, t370)) else (none)) else (none)) else (some (t387, t370)))))))) = some (r1, r2) := H
 have A3 := Aside0.mk A30
 clear A30
 obtain ⟨y373, hy373⟩ : ∃ y_ : List ByteArray, y_ = (([(⟨#[]⟩ : ByteArray), (⟨#[42]⟩ : ByteArray), (⟨#[53, 58, 42]⟩ : ByteArray), (⟨#[42, 58, 51]⟩ : ByteArray), (⟨#[55, 44, 49, 44, 50]⟩ : ByteArray), (⟨#[51, 58, 49]⟩ : ByteArray), (⟨#[48]⟩ : ByteArray), (⟨#[49, 58]⟩ : ByteArray), (⟨#[44]⟩ : ByteArray), (⟨#[49, 48, 48, 48, 48]⟩ : ByteArray), (⟨#[49, 44, 44, 50]⟩ : ByteArray), (⟨#[52, 58, 120]⟩ : ByteArray), (⟨#[48, 48, 49, 50]⟩ : ByteArray), (⟨#[48, 48, 48, 49, 50]⟩ : ByteArray), (⟨#[50, 58, 50, 44, 51]⟩ : ByteArray)] : List ByteArray)) := ⟨_, rfl⟩
 replace H : ((spec_l01Pick.f t363 t371 t372 y373).bind fun bt376 => ((spec_l01Below.f t363 bt376.2.1 bt376.2.2 3).bind fun bt379 => ((spec_l05Any.f k t363 bt379.2.1 bt379.2.2).bind fun bt382 => ((spec_SetText.f k bt382.1).bind fun t387 => (if bt379.1 = 0 then (some (bt376.1, t370)) else (if bt379.1 = 1 then (if t387.size + 1 ≤ 9223372036854775807 then (if (t387 ++ (⟨#[44]⟩ : ByteArray)).size + bt376.1.size ≤ 9223372036854775807 then (some ((t387 ++ (⟨#[44]⟩ : ByteArray)) ++ bt376.1, t370)) else (none)) else (none)) else (some (t387, t370)))))))) = some (r1, r2) := by first | (rw [hy373]; with_reducible exact H) | (have H2_ := (Option.bind_some _ _).symm.trans H; rw [hy373]; with_reducible exact H2_) | (have H2_ := (Option.bind_some _ _).symm.trans H; with_reducible exact H2_) | with_reducible exact H | (rw [hy373]; exact H) | exact H
 have Ny373 := Aside0.mk hy373
 clear hy373
 replace H := Option.bind_eq_some_iff.mp H
 obtain ⟨⟨t376, t377, t378⟩, A40, H⟩ := H
 replace H : ((spec_l01Below.f t363 t377 t378 3).bind fun bt379 => ((spec_l05Any.f k t363 bt379.2.1 bt379.2.2).bind fun bt382 => ((spec_SetText.f k bt382.1).bind fun t387 => (if bt379.1 = 0 then (some (t376, t370)) else (if bt379.1 = 1 then (if t387.size + 1 ≤ 9223372036854775807 then (if (t387 ++ (⟨#[44]⟩ : ByteArray)).size + t376.size ≤ 9223372036854775807 then (some ((t387 ++ (⟨#[44]⟩ : ByteArray)) ++ t376, t370)) else (none)) else (none)) else (some (t387, t370))))))) = some (r1, r2) := H
 have A4 := Aside0.mk A40
 clear A40
 replace H := Option.bind_eq_some_iff.mp H
 obtain ⟨⟨t379, t380, t381⟩, A50, H⟩ := H
 replace H : ((spec_l05Any.f k t363 t380 t381).bind fun bt382 => ((spec_SetText.f k bt382.1).bind fun t387 => (if t379 = 0 then (some (t376, t370)) else (if t379 = 1 then (if t387.size + 1 ≤ 9223372036854775807 then (if (t387 ++ (⟨#[44]⟩ : ByteArray)).size + t376.size ≤ 9223372036854775807 then (some ((t387 ++ (⟨#[44]⟩ : ByteArray)) ++ t376, t370)) else (none)) else (none)) else (some (t387, t370)))))) = some (r1, r2) := H
 have A5 := Aside0.mk A50
 clear A50
 replace H := Option.bind_eq_some_iff.mp H
 obtain ⟨⟨t382, t385, t386⟩, A60, H⟩ := H
 replace H : ((spec_SetText.f k t382).bind fun t387 => (if t379 = 0 then (some (t376, t370)) else (if t379 = 1 then (if t387.size + 1 ≤ 9223372036854775807 then (if (t387 ++ (⟨#[44]⟩ : ByteArray)).size + t376.size ≤ 9223372036854775807 then (some ((t387 ++ (⟨#[44]⟩ : ByteArray)) ++ t376, t370)) else (none)) else (none)) else (some (t387, t370))))) = some (r1, r2) := H
 have A6 := Aside0.mk A60
 clear A60
 replace H := Option.bind_eq_some_iff.mp H
 obtain ⟨t387, A70, H⟩ := H
 have A7 := Aside0.mk A70
 clear A70
 by_cases c8 : t379 = 0
 ·rw [if_pos c8] at H
  have c8b0 : (t379 == 0) = true := beq_iff_eq.mpr c8
  have c8b1 : (t379 != 0) = false := bne_eq_false_iff_eq.mpr c8
  clear c8
  simp only [Option.some.injEq, Prod.mk.injEq] at H
  obtain ⟨rfl, rfl⟩ := H
  go_enter Tryd.func16, Tryd.ntmps16
  go_wp2_with (first | ((with_reducible refine gate_callee (f := 32) rfl ?_); refine zG (some 10) Tryd.func32 #[.slice A0 l0.length c0] ?_; (with_reducible refine (spec_l01New.calls k _ _ l0 t363 t364 t365 w _ ?side1 ?side2 ?side3 A2.out).mono ?_); (case side1 => exact zw HB); (case side2 => exact HR0.out); (case side3 => exact HC0.out); rintro e w9 ⟨g366, rfl, hi, hb, hb2⟩; refine ⟨_, rfl, ?_⟩; replace HB := Aside0.mk (hb); have HI366 := Aside0.mk (hi); clear hi hb hb2) | ((with_reducible refine gate_dst (N := 12) rfl ?_); refine Kd.R_lit (Kd.int .i64) _ 3 ?hg (N := 12) ?hd (xs := ([1, 5, 9999, 0, 10000] : List Int)) (inner := [.int .i64 1, .int .i64 5, .int .i64 9999, .int .i64 0, .int .i64 10000]) (ok := fun _ => True) (okp := fun _ => True) ?hr ?hp (fun _ hk => hk) trivial (Below.refl _ _) (Nat.le_refl _) (by simp) ?_; (case hd => rfl); (case hg => rfl); (case hr => first | (go_simp; done) | (go_simp; rfl)); (case hp => exact (Reps.one (show Kd.M (Kd.int .i64) _ _ _ 1 [.int .i64 1] from rfl) (Reps.one (show Kd.M (Kd.int .i64) _ _ _ 5 [.int .i64 5] from rfl) (Reps.one (show Kd.M (Kd.int .i64) _ _ _ 9999 [.int .i64 9999] from rfl) (Reps.one (show Kd.M (Kd.int .i64) _ _ _ 0 [.int .i64 0] from rfl) (Reps.one (show Kd.M (Kd.int .i64) _ _ _ 10000 [.int .i64 10000] from rfl) (Reps.none _ _))))))); intro v368 w10 ho11 hb hg_ hnew_; clear hg_ hnew_; (first | rw [← Ny367.out] at ho11 | (simp only [Int.reduceToNat] at ho11; rw [← Ny367.out] at ho11)); have HO369 := Aside0.mk (Kd.R_lower ho11 (below_size (yw HB))); replace HB := ys HB hb; replace HI366 := Aside0.mk (IsS78.below (yI HI366) hb); clear hb ho11; obtain ⟨Ao12, co12, eo12⟩ := Kd.R_slice HO369.out; subst eo12) | ((with_reducible refine gate_callee (f := 33) rfl ?_); refine zG (some 13) Tryd.func33 #[.pointer (some ⟨g366, 0, none⟩), .slice Ao12 y367.length co12] ?_; (with_reducible refine (spec_l01PickInt.calls g366 t363 t364 t365 _ _ y367 t370 t371 t372 w _ ?side1 ?side2 ?side3 ?side4 ?side5 A3.out).mono ?_); (case side1 => exact yI HI366); (case side2 => exact yw HB); (case side3 => exact zI (Kd.R_reads' HO369.out).2.2); (case side4 => exact (Kd.R_reads' HO369.out).2.1); (case side5 => exact far_slice (IsS78.own_ne HI366.out HO369.out (by decide))); rintro e w13 ⟨rfl, hi, hb, hk⟩; refine ⟨_, rfl, ?_⟩; replace HO369 := Aside0.mk (Kd.R_mono (Kd.R_keep (IsS78.apart (show IsS78 w _ g366 t363 t364 t365 from yI HI366) (zo HO369.out) (by decide)) hk (fun _ h => h.2)) (fun _ h => h.1)); replace HB := Aside0.mk (hb); replace HI366 := Aside0.mk (hi); clear hi hb hk) | ((with_reducible refine gate_dst (N := 15) rfl ?_); refine Kd.R_lit Kd.string _ 9 ?hg (N := 15) ?hd (xs := ([(⟨#[]⟩ : ByteArray), (⟨#[42]⟩ : ByteArray), (⟨#[53, 58, 42]⟩ : ByteArray), (⟨#[42, 58, 51]⟩ : ByteArray), (⟨#[55, 44, 49, 44, 50]⟩ : ByteArray), (⟨#[51, 58, 49]⟩ : ByteArray), (⟨#[48]⟩ : ByteArray), (⟨#[49, 58]⟩ : ByteArray), (⟨#[44]⟩ : ByteArray), (⟨#[49, 48, 48, 48, 48]⟩ : ByteArray), (⟨#[49, 44, 44, 50]⟩ : ByteArray), (⟨#[52, 58, 120]⟩ : ByteArray), (⟨#[48, 48, 49, 50]⟩ : ByteArray), (⟨#[48, 48, 48, 49, 50]⟩ : ByteArray), (⟨#[50, 58, 50, 44, 51]⟩ : ByteArray)] : List ByteArray)) (inner := [.string (⟨#[]⟩ : ByteArray), .string (⟨#[42]⟩ : ByteArray), .string (⟨#[53, 58, 42]⟩ : ByteArray), .string (⟨#[42, 58, 51]⟩ : ByteArray), .string (⟨#[55, 44, 49, 44, 50]⟩ : ByteArray), .string (⟨#[51, 58, 49]⟩ : ByteArray), .string (⟨#[48]⟩ : ByteArray), .string (⟨#[49, 58]⟩ : ByteArray), .string (⟨#[44]⟩ : ByteArray), .string (⟨#[49, 48, 48, 48, 48]⟩ : ByteArray), .string (⟨#[49, 44, 44, 50]⟩ : ByteArray), .string (⟨#[52, 58, 120]⟩ : ByteArray), .string (⟨#[48, 48, 49, 50]⟩ : ByteArray), .string (⟨#[48, 48, 48, 49, 50]⟩ : ByteArray), .string (⟨#[50, 58, 50, 44, 51]⟩ : ByteArray)]) (ok := fun _ => True) (okp := fun _ => True) ?hr ?hp (fun _ hk => hk) trivial (Below.refl _ _) (Nat.le_refl _) (by simp) ?_; (case hd => rfl); (case hg => rfl); (case hr => first | (go_simp; done) | (go_simp; rfl)); (case hp => exact (Reps.one (show Kd.M Kd.string _ _ _ (⟨#[]⟩ : ByteArray) [.string (⟨#[]⟩ : ByteArray)] from rfl) (Reps.one (show Kd.M Kd.string _ _ _ (⟨#[42]⟩ : ByteArray) [.string (⟨#[42]⟩ : ByteArray)] from rfl) (Reps.one (show Kd.M Kd.string _ _ _ (⟨#[53, 58, 42]⟩ : ByteArray) [.string (⟨#[53, 58, 42]⟩ : ByteArray)] from rfl) (Reps.one (show Kd.M Kd.string _ _ _ (⟨#[42, 58, 51]⟩ : ByteArray) [.string (⟨#[42, 58, 51]⟩ : ByteArray)] from rfl) (Reps.one (show Kd.M Kd.string _ _ _ (⟨#[55, 44, 49, 44, 50]⟩ : ByteArray) [.string (⟨#[55, 44, 49, 44, 50]⟩ : ByteArray)] from rfl) (Reps.one (show Kd.M Kd.string _ _ _ (⟨#[51, 58, 49]⟩ : ByteArray) [.string (⟨#[51, 58, 49]⟩ : ByteArray)] from rfl) (Reps.one (show Kd.M Kd.string _ _ _ (⟨#[48]⟩ : ByteArray) [.string (⟨#[48]⟩ : ByteArray)] from rfl) (Reps.one (show Kd.M Kd.string _ _ _ (⟨#[49, 58]⟩ : ByteArray) [.string (⟨#[49, 58]⟩ : ByteArray)] from rfl) (Reps.one (show Kd.M Kd.string _ _ _ (⟨#[44]⟩ : ByteArray) [.string (⟨#[44]⟩ : ByteArray)] from rfl) (Reps.one (show Kd.M Kd.string _ _ _ (⟨#[49, 48, 48, 48, 48]⟩ : ByteArray) [.string (⟨#[49, 48, 48, 48, 48]⟩ : ByteArray)] from rfl) (Reps.one (show Kd.M Kd.string _ _ _ (⟨#[49, 44, 44, 50]⟩ : ByteArray) [.string (⟨#[49, 44, 44, 50]⟩ : ByteArray)] from rfl) (Reps.one (show Kd.M Kd.string _ _ _ (⟨#[52, 58, 120]⟩ : ByteArray) [.string (⟨#[52, 58, 120]⟩ : ByteArray)] from rfl) (Reps.one (show Kd.M Kd.string _ _ _ (⟨#[48, 48, 49, 50]⟩ : ByteArray) [.string (⟨#[48, 48, 49, 50]⟩ : ByteArray)] from rfl) (Reps.one (show Kd.M Kd.string _ _ _ (⟨#[48, 48, 48, 49, 50]⟩ : ByteArray) [.string (⟨#[48, 48, 48, 49, 50]⟩ : ByteArray)] from rfl) (Reps.one (show Kd.M Kd.string _ _ _ (⟨#[50, 58, 50, 44, 51]⟩ : ByteArray) [.string (⟨#[50, 58, 50, 44, 51]⟩ : ByteArray)] from rfl) (Reps.none _ _))))))))))))))))); intro v374 w14 ho15 hb hg_ hnew_; clear hg_ hnew_; (first | rw [← Ny373.out] at ho15 | (simp only [Int.reduceToNat] at ho15; rw [← Ny373.out] at ho15)); replace HO369 := Aside0.mk (Kd.R_below (zo HO369.out) hb); have HO375 := Aside0.mk (Kd.R_lower ho15 (below_size (yw HB))); replace HB := ys HB hb; replace HI366 := Aside0.mk (IsS78.below (yI HI366) hb); clear hb ho15; obtain ⟨Ao16, co16, eo16⟩ := Kd.R_slice HO375.out; subst eo16) | ((with_reducible refine gate_callee (f := 46) rfl ?_); refine zG (some 16) Tryd.func46 #[.pointer (some ⟨g366, 0, none⟩), .slice Ao16 y373.length co16] ?_; (with_reducible refine (spec_l01Pick.calls g366 t363 t371 t372 _ _ y373 t376 t377 t378 w _ ?side1 ?side2 ?side3 ?side4 ?side5 A4.out).mono ?_); (case side1 => exact yI HI366); (case side2 => exact yw HB); (case side3 => exact zI (Kd.R_reads' HO375.out).2.2); (case side4 => exact (Kd.R_reads' HO375.out).2.1); (case side5 => exact far_slice (IsS78.own_ne HI366.out HO375.out (by decide))); rintro e w17 ⟨rfl, hi, hb, hk⟩; refine ⟨_, rfl, ?_⟩; replace HO369 := Aside0.mk (Kd.R_mono (Kd.R_keep (IsS78.apart (show IsS78 w _ g366 t363 t371 t372 from yI HI366) (zo HO369.out) (by decide)) hk (fun _ h => h.2)) (fun _ h => h.1)); replace HO375 := Aside0.mk (Kd.R_mono (Kd.R_keep (IsS78.apart (show IsS78 w _ g366 t363 t371 t372 from yI HI366) (zo HO375.out) (by decide)) hk (fun _ h => h.2)) (fun _ h => h.1)); replace HB := Aside0.mk (hb); replace HI366 := Aside0.mk (hi); clear hi hb hk) | ((with_reducible refine gate_callee (f := 47) rfl ?_); refine zG (some 18) Tryd.func47 #[.pointer (some ⟨g366, 0, none⟩), .int .i64 3] ?_; (with_reducible refine (spec_l01Below.calls g366 t363 t377 t378 3 t379 t380 t381 w _ ?side1 ?side2 A5.out).mono ?_); (case side1 => exact yI HI366); (case side2 => exact yw HB); rintro e w18 ⟨rfl, hi, hb, hk⟩; refine ⟨_, rfl, ?_⟩; replace HO369 := Aside0.mk (Kd.R_mono (Kd.R_keep (IsS78.apart (show IsS78 w _ g366 t363 t377 t378 from yI HI366) (zo HO369.out) (by decide)) hk (fun _ h => h.2)) (fun _ h => h.1)); replace HO375 := Aside0.mk (Kd.R_mono (Kd.R_keep (IsS78.apart (show IsS78 w _ g366 t363 t377 t378 from yI HI366) (zo HO375.out) (by decide)) hk (fun _ h => h.2)) (fun _ h => h.1)); replace HB := Aside0.mk (hb); replace HI366 := Aside0.mk (hi); clear hi hb hk) | ((with_reducible refine gate_callee (f := 35) rfl ?_); refine zG (some 20) Tryd.func35 #[.pointer (some ⟨g366, 0, none⟩)] ?_; (with_reducible refine (spec_l05Any.calls k g366 t363 t380 t381 t382 t385 t386 w _ ?side1 ?side2 A6.out).mono ?_); (case side1 => exact yI HI366); (case side2 => exact yw HB); rintro e w19 ⟨v383, rfl, ho0, hi, hb, hk⟩; refine ⟨_, rfl, ?_⟩; replace HO369 := Aside0.mk (Kd.R_mono (Kd.R_keep (IsS78.apart (show IsS78 w _ g366 t363 t380 t381 from yI HI366) (zo HO369.out) (by decide)) hk (fun _ h => h.2)) (fun _ h => h.1)); replace HO375 := Aside0.mk (Kd.R_mono (Kd.R_keep (IsS78.apart (show IsS78 w _ g366 t363 t380 t381 from yI HI366) (zo HO375.out) (by decide)) hk (fun _ h => h.2)) (fun _ h => h.1)); have HO384 := Aside0.mk (Kd.R_lower ho0 (below_size (yw HB))); replace HB := Aside0.mk (hb); replace HI366 := Aside0.mk (hi); clear ho0 hi hb hk; obtain ⟨Ao20, co20, eo20⟩ := Kd.R_slice HO384.out; subst eo20) | ((with_reducible refine gate_callee (f := 26) rfl ?_); refine zG (some 21) Tryd.func26 #[.slice Ao20 t382.length co20] ?_; (with_reducible refine (spec_SetText.calls k _ _ t382 t387 _ ?side1 ?side2 A7.out).mono ?_); (case side1 => exact zI (Kd.R_reads' HO384.out).2.2); (case side2 => exact (Kd.R_reads' HO384.out).2.1); rintro e w21 ⟨rfl, hb⟩; refine ⟨_, rfl, ?_⟩; replace HO369 := Aside0.mk (Kd.R_below (zo HO369.out) hb); replace HO375 := Aside0.mk (Kd.R_below (zo HO375.out) hb); replace HO384 := Aside0.mk (Kd.R_below (zo HO384.out) hb); replace HB := ys HB hb; replace HI366 := Aside0.mk (IsS78.below (yI HI366) hb); clear hb))
  go_ret2
  exact ⟨ze, yw HB⟩
 ·rw [if_neg c8] at H
  have c8b0 : (t379 == 0) = false := beq_eq_false_iff_ne.mpr c8
  have c8b1 : (t379 != 0) = true := bne_iff_ne.mpr c8
  by_cases c22 : t379 = 1
  ·rw [if_pos c22] at H
   have c22b0 : (t379 == 1) = true := beq_iff_eq.mpr c22
   have c22b1 : (t379 != 1) = false := bne_eq_false_iff_eq.mpr c22
   clear c22
   by_cases c23 : t387.size + 1 ≤ 9223372036854775807
   ·rw [if_pos c23] at H
    have c23b0 := eq_true c23
    have c23b1 : decide (t387.size + 1 ≤ 9223372036854775807) = true := decide_eq_true c23
    try have c23b2 : (9223372036854775807 < t387.size + 1) = False := eq_false (Nat.not_lt.2 c23)
    by_cases c24 : (t387 ++ (⟨#[44]⟩ : ByteArray)).size + t376.size ≤ 9223372036854775807
    ·rw [if_pos c24] at H
     have c24b0 := eq_true c24
     have c24b1 : decide ((t387 ++ (⟨#[44]⟩ : ByteArray)).size + t376.size ≤ 9223372036854775807) = true := decide_eq_true c24
     try have c24b2 : (9223372036854775807 < (t387 ++ (⟨#[44]⟩ : ByteArray)).size + t376.size) = False := eq_false (Nat.not_lt.2 c24)
     try have c24b3 : (9223372036854775807 < t387.size + 1 + t376.size) = False := eq_false (Nat.not_lt.2 (by have h_ := c24; simp only [ByteArray.size_append] at h_; exact h_))
     simp only [Option.some.injEq, Prod.mk.injEq] at H
     obtain ⟨rfl, rfl⟩ := H
     go_enter Tryd.func16, Tryd.ntmps16
     go_wp2_with (first | ((with_reducible refine gate_callee (f := 32) rfl ?_); refine zG (some 10) Tryd.func32 #[.slice A0 l0.length c0] ?_; (with_reducible refine (spec_l01New.calls k _ _ l0 t363 t364 t365 w _ ?side1 ?side2 ?side3 A2.out).mono ?_); (case side1 => exact zw HB); (case side2 => exact HR0.out); (case side3 => exact HC0.out); rintro e w25 ⟨g366, rfl, hi, hb, hb2⟩; refine ⟨_, rfl, ?_⟩; replace HB := Aside0.mk (hb); have HI366 := Aside0.mk (hi); clear hi hb hb2) | ((with_reducible refine gate_dst (N := 12) rfl ?_); refine Kd.R_lit (Kd.int .i64) _ 3 ?hg (N := 12) ?hd (xs := ([1, 5, 9999, 0, 10000] : List Int)) (inner := [.int .i64 1, .int .i64 5, .int .i64 9999, .int .i64 0, .int .i64 10000]) (ok := fun _ => True) (okp := fun _ => True) ?hr ?hp (fun _ hk => hk) trivial (Below.refl _ _) (Nat.le_refl _) (by simp) ?_; (case hd => rfl); (case hg => rfl); (case hr => first | (go_simp; done) | (go_simp; rfl)); (case hp => exact (Reps.one (show Kd.M (Kd.int .i64) _ _ _ 1 [.int .i64 1] from rfl) (Reps.one (show Kd.M (Kd.int .i64) _ _ _ 5 [.int .i64 5] from rfl) (Reps.one (show Kd.M (Kd.int .i64) _ _ _ 9999 [.int .i64 9999] from rfl) (Reps.one (show Kd.M (Kd.int .i64) _ _ _ 0 [.int .i64 0] from rfl) (Reps.one (show Kd.M (Kd.int .i64) _ _ _ 10000 [.int .i64 10000] from rfl) (Reps.none _ _))))))); intro v368 w26 ho27 hb hg_ hnew_; clear hg_ hnew_; (first | rw [← Ny367.out] at ho27 | (simp only [Int.reduceToNat] at ho27; rw [← Ny367.out] at ho27)); have HO369 := Aside0.mk (Kd.R_lower ho27 (below_size (yw HB))); replace HB := ys HB hb; replace HI366 := Aside0.mk (IsS78.below (yI HI366) hb); clear hb ho27; obtain ⟨Ao28, co28, eo28⟩ := Kd.R_slice HO369.out; subst eo28) | ((with_reducible refine gate_callee (f := 33) rfl ?_); refine zG (some 13) Tryd.func33 #[.pointer (some ⟨g366, 0, none⟩), .slice Ao28 y367.length co28] ?_; (with_reducible refine (spec_l01PickInt.calls g366 t363 t364 t365 _ _ y367 t370 t371 t372 w _ ?side1 ?side2 ?side3 ?side4 ?side5 A3.out).mono ?_); (case side1 => exact yI HI366); (case side2 => exact yw HB); (case side3 => exact zI (Kd.R_reads' HO369.out).2.2); (case side4 => exact (Kd.R_reads' HO369.out).2.1); (case side5 => exact far_slice (IsS78.own_ne HI366.out HO369.out (by decide))); rintro e w29 ⟨rfl, hi, hb, hk⟩; refine ⟨_, rfl, ?_⟩; replace HO369 := Aside0.mk (Kd.R_mono (Kd.R_keep (IsS78.apart (show IsS78 w _ g366 t363 t364 t365 from yI HI366) (zo HO369.out) (by decide)) hk (fun _ h => h.2)) (fun _ h => h.1)); replace HB := Aside0.mk (hb); replace HI366 := Aside0.mk (hi); clear hi hb hk) | ((with_reducible refine gate_dst (N := 15) rfl ?_); refine Kd.R_lit Kd.string _ 9 ?hg (N := 15) ?hd (xs := ([(⟨#[]⟩ : ByteArray), (⟨#[42]⟩ : ByteArray), (⟨#[53, 58, 42]⟩ : ByteArray), (⟨#[42, 58, 51]⟩ : ByteArray), (⟨#[55, 44, 49, 44, 50]⟩ : ByteArray), (⟨#[51, 58, 49]⟩ : ByteArray), (⟨#[48]⟩ : ByteArray), (⟨#[49, 58]⟩ : ByteArray), (⟨#[44]⟩ : ByteArray), (⟨#[49, 48, 48, 48, 48]⟩ : ByteArray), (⟨#[49, 44, 44, 50]⟩ : ByteArray), (⟨#[52, 58, 120]⟩ : ByteArray), (⟨#[48, 48, 49, 50]⟩ : ByteArray), (⟨#[48, 48, 48, 49, 50]⟩ : ByteArray), (⟨#[50, 58, 50, 44, 51]⟩ : ByteArray)] : List ByteArray)) (inner := [.string (⟨#[]⟩ : ByteArray), .string (⟨#[42]⟩ : ByteArray), .string (⟨#[53, 58, 42]⟩ : ByteArray), .string (⟨#[42, 58, 51]⟩ : ByteArray), .string (⟨#[55, 44, 49, 44, 50]⟩ : ByteArray), .string (⟨#[51, 58, 49]⟩ : ByteArray), .string (⟨#[48]⟩ : ByteArray), .string (⟨#[49, 58]⟩ : ByteArray), .string (⟨#[44]⟩ : ByteArray), .string (⟨#[49, 48, 48, 48, 48]⟩ : ByteArray), .string (⟨#[49, 44, 44, 50]⟩ : ByteArray), .string (⟨#[52, 58, 120]⟩ : ByteArray), .string (⟨#[48, 48, 49, 50]⟩ : ByteArray), .string (⟨#[48, 48, 48, 49, 50]⟩ : ByteArray), .string (⟨#[50, 58, 50, 44, 51]⟩ : ByteArray)]) (ok := fun _ => True) (okp := fun _ => True) ?hr ?hp (fun _ hk => hk) trivial (Below.refl _ _) (Nat.le_refl _) (by simp) ?_; (case hd => rfl); (case hg => rfl); (case hr => first | (go_simp; done) | (go_simp; rfl)); (case hp => exact (Reps.one (show Kd.M Kd.string _ _ _ (⟨#[]⟩ : ByteArray) [.string (⟨#[]⟩ : ByteArray)] from rfl) (Reps.one (show Kd.M Kd.string _ _ _ (⟨#[42]⟩ : ByteArray) [.string (⟨#[42]⟩ : ByteArray)] from rfl) (Reps.one (show Kd.M Kd.string _ _ _ (⟨#[53, 58, 42]⟩ : ByteArray) [.string (⟨#[53, 58, 42]⟩ : ByteArray)] from rfl) (Reps.one (show Kd.M Kd.string _ _ _ (⟨#[42, 58, 51]⟩ : ByteArray) [.string (⟨#[42, 58, 51]⟩ : ByteArray)] from rfl) (Reps.one (show Kd.M Kd.string _ _ _ (⟨#[55, 44, 49, 44, 50]⟩ : ByteArray) [.string (⟨#[55, 44, 49, 44, 50]⟩ : ByteArray)] from rfl) (Reps.one (show Kd.M Kd.string _ _ _ (⟨#[51, 58, 49]⟩ : ByteArray) [.string (⟨#[51, 58, 49]⟩ : ByteArray)] from rfl) (Reps.one (show Kd.M Kd.string _ _ _ (⟨#[48]⟩ : ByteArray) [.string (⟨#[48]⟩ : ByteArray)] from rfl) (Reps.one (show Kd.M Kd.string _ _ _ (⟨#[49, 58]⟩ : ByteArray) [.string (⟨#[49, 58]⟩ : ByteArray)] from rfl) (Reps.one (show Kd.M Kd.string _ _ _ (⟨#[44]⟩ : ByteArray) [.string (⟨#[44]⟩ : ByteArray)] from rfl) (Reps.one (show Kd.M Kd.string _ _ _ (⟨#[49, 48, 48, 48, 48]⟩ : ByteArray) [.string (⟨#[49, 48, 48, 48, 48]⟩ : ByteArray)] from rfl) (Reps.one (show Kd.M Kd.string _ _ _ (⟨#[49, 44, 44, 50]⟩ : ByteArray) [.string (⟨#[49, 44, 44, 50]⟩ : ByteArray)] from rfl) (Reps.one (show Kd.M Kd.string _ _ _ (⟨#[52, 58, 120]⟩ : ByteArray) [.string (⟨#[52, 58, 120]⟩ : ByteArray)] from rfl) (Reps.one (show Kd.M Kd.string _ _ _ (⟨#[48, 48, 49, 50]⟩ : ByteArray) [.string (⟨#[48, 48, 49, 50]⟩ : ByteArray)] from rfl) (Reps.one (show Kd.M Kd.string _ _ _ (⟨#[48, 48, 48, 49, 50]⟩ : ByteArray) [.string (⟨#[48, 48, 48, 49, 50]⟩ : ByteArray)] from rfl) (Reps.one (show Kd.M Kd.string _ _ _ (⟨#[50, 58, 50, 44, 51]⟩ : ByteArray) [.string (⟨#[50, 58, 50, 44, 51]⟩ : ByteArray)] from rfl) (Reps.none _ _))))))))))))))))); intro v374 w30 ho31 hb hg_ hnew_; clear hg_ hnew_; (first | rw [← Ny373.out] at ho31 | (simp only [Int.reduceToNat] at ho31; rw [← Ny373.out] at ho31)); replace HO369 := Aside0.mk (Kd.R_below (zo HO369.out) hb); have HO375 := Aside0.mk (Kd.R_lower ho31 (below_size (yw HB))); replace HB := ys HB hb; replace HI366 := Aside0.mk (IsS78.below (yI HI366) hb); clear hb ho31; obtain ⟨Ao32, co32, eo32⟩ := Kd.R_slice HO375.out; subst eo32) | ((with_reducible refine gate_callee (f := 46) rfl ?_); refine zG (some 16) Tryd.func46 #[.pointer (some ⟨g366, 0, none⟩), .slice Ao32 y373.length co32] ?_; (with_reducible refine (spec_l01Pick.calls g366 t363 t371 t372 _ _ y373 t376 t377 t378 w _ ?side1 ?side2 ?side3 ?side4 ?side5 A4.out).mono ?_); (case side1 => exact yI HI366); (case side2 => exact yw HB); (case side3 => exact zI (Kd.R_reads' HO375.out).2.2); (case side4 => exact (Kd.R_reads' HO375.out).2.1); (case side5 => exact far_slice (IsS78.own_ne HI366.out HO375.out (by decide))); rintro e w33 ⟨rfl, hi, hb, hk⟩; refine ⟨_, rfl, ?_⟩; replace HO369 := Aside0.mk (Kd.R_mono (Kd.R_keep (IsS78.apart (show IsS78 w _ g366 t363 t371 t372 from yI HI366) (zo HO369.out) (by decide)) hk (fun _ h => h.2)) (fun _ h => h.1)); replace HO375 := Aside0.mk (Kd.R_mono (Kd.R_keep (IsS78.apart (show IsS78 w _ g366 t363 t371 t372 from yI HI366) (zo HO375.out) (by decide)) hk (fun _ h => h.2)) (fun _ h => h.1)); replace HB := Aside0.mk (hb); replace HI366 := Aside0.mk (hi); clear hi hb hk) | ((with_reducible refine gate_callee (f := 47) rfl ?_); refine zG (some 18) Tryd.func47 #[.pointer (some ⟨g366, 0, none⟩), .int .i64 3] ?_; (with_reducible refine (spec_l01Below.calls g366 t363 t377 t378 3 t379 t380 t381 w _ ?side1 ?side2 A5.out).mono ?_); (case side1 => exact yI HI366); (case side2 => exact yw HB); rintro e w34 ⟨rfl, hi, hb, hk⟩; refine ⟨_, rfl, ?_⟩; replace HO369 := Aside0.mk (Kd.R_mono (Kd.R_keep (IsS78.apart (show IsS78 w _ g366 t363 t377 t378 from yI HI366) (zo HO369.out) (by decide)) hk (fun _ h => h.2)) (fun _ h => h.1)); replace HO375 := Aside0.mk (Kd.R_mono (Kd.R_keep (IsS78.apart (show IsS78 w _ g366 t363 t377 t378 from yI HI366) (zo HO375.out) (by decide)) hk (fun _ h => h.2)) (fun _ h => h.1)); replace HB := Aside0.mk (hb); replace HI366 := Aside0.mk (hi); clear hi hb hk) | ((with_reducible refine gate_callee (f := 35) rfl ?_); refine zG (some 20) Tryd.func35 #[.pointer (some ⟨g366, 0, none⟩)] ?_; (with_reducible refine (spec_l05Any.calls k g366 t363 t380 t381 t382 t385 t386 w _ ?side1 ?side2 A6.out).mono ?_); (case side1 => exact yI HI366); (case side2 => exact yw HB); rintro e w35 ⟨v383, rfl, ho0, hi, hb, hk⟩; refine ⟨_, rfl, ?_⟩; replace HO369 := Aside0.mk (Kd.R_mono (Kd.R_keep (IsS78.apart (show IsS78 w _ g366 t363 t380 t381 from yI HI366) (zo HO369.out) (by decide)) hk (fun _ h => h.2)) (fun _ h => h.1)); replace HO375 := Aside0.mk (Kd.R_mono (Kd.R_keep (IsS78.apart (show IsS78 w _ g366 t363 t380 t381 from yI HI366) (zo HO375.out) (by decide)) hk (fun _ h => h.2)) (fun _ h => h.1)); have HO384 := Aside0.mk (Kd.R_lower ho0 (below_size (yw HB))); replace HB := Aside0.mk (hb); replace HI366 := Aside0.mk (hi); clear ho0 hi hb hk; obtain ⟨Ao36, co36, eo36⟩ := Kd.R_slice HO384.out; subst eo36) | ((with_reducible refine gate_callee (f := 26) rfl ?_); refine zG (some 21) Tryd.func26 #[.slice Ao36 t382.length co36] ?_; (with_reducible refine (spec_SetText.calls k _ _ t382 t387 _ ?side1 ?side2 A7.out).mono ?_); (case side1 => exact zI (Kd.R_reads' HO384.out).2.2); (case side2 => exact (Kd.R_reads' HO384.out).2.1); rintro e w37 ⟨rfl, hb⟩; refine ⟨_, rfl, ?_⟩; replace HO369 := Aside0.mk (Kd.R_below (zo HO369.out) hb); replace HO375 := Aside0.mk (Kd.R_below (zo HO375.out) hb); replace HO384 := Aside0.mk (Kd.R_below (zo HO384.out) hb); replace HB := ys HB hb; replace HI366 := Aside0.mk (IsS78.below (yI HI366) hb); clear hb))
     go_ret2
     exact ⟨ze, yw HB⟩
    ·rw [if_neg c24] at H
     exact absurd H (by simp)
   ·rw [if_neg c23] at H
    exact absurd H (by simp)
  ·rw [if_neg c22] at H
   have c22b0 : (t379 == 1) = false := beq_eq_false_iff_ne.mpr c22
   have c22b1 : (t379 != 1) = true := bne_iff_ne.mpr c22
   simp only [Option.some.injEq, Prod.mk.injEq] at H
   obtain ⟨rfl, rfl⟩ := H
   go_enter Tryd.func16, Tryd.ntmps16
   go_wp2_with (first | ((with_reducible refine gate_callee (f := 32) rfl ?_); refine zG (some 10) Tryd.func32 #[.slice A0 l0.length c0] ?_; (with_reducible refine (spec_l01New.calls k _ _ l0 t363 t364 t365 w _ ?side1 ?side2 ?side3 A2.out).mono ?_); (case side1 => exact zw HB); (case side2 => exact HR0.out); (case side3 => exact HC0.out); rintro e w38 ⟨g366, rfl, hi, hb, hb2⟩; refine ⟨_, rfl, ?_⟩; replace HB := Aside0.mk (hb); have HI366 := Aside0.mk (hi); clear hi hb hb2) | ((with_reducible refine gate_dst (N := 12) rfl ?_); refine Kd.R_lit (Kd.int .i64) _ 3 ?hg (N := 12) ?hd (xs := ([1, 5, 9999, 0, 10000] : List Int)) (inner := [.int .i64 1, .int .i64 5, .int .i64 9999, .int .i64 0, .int .i64 10000]) (ok := fun _ => True) (okp := fun _ => True) ?hr ?hp (fun _ hk => hk) trivial (Below.refl _ _) (Nat.le_refl _) (by simp) ?_; (case hd => rfl); (case hg => rfl); (case hr => first | (go_simp; done) | (go_simp; rfl)); (case hp => exact (Reps.one (show Kd.M (Kd.int .i64) _ _ _ 1 [.int .i64 1] from rfl) (Reps.one (show Kd.M (Kd.int .i64) _ _ _ 5 [.int .i64 5] from rfl) (Reps.one (show Kd.M (Kd.int .i64) _ _ _ 9999 [.int .i64 9999] from rfl) (Reps.one (show Kd.M (Kd.int .i64) _ _ _ 0 [.int .i64 0] from rfl) (Reps.one (show Kd.M (Kd.int .i64) _ _ _ 10000 [.int .i64 10000] from rfl) (Reps.none _ _))))))); intro v368 w39 ho40 hb hg_ hnew_; clear hg_ hnew_; (first | rw [← Ny367.out] at ho40 | (simp only [Int.reduceToNat] at ho40; rw [← Ny367.out] at ho40)); have HO369 := Aside0.mk (Kd.R_lower ho40 (below_size (yw HB))); replace HB := ys HB hb; replace HI366 := Aside0.mk (IsS78.below (yI HI366) hb); clear hb ho40; obtain ⟨Ao41, co41, eo41⟩ := Kd.R_slice HO369.out; subst eo41) | ((with_reducible refine gate_callee (f := 33) rfl ?_); refine zG (some 13) Tryd.func33 #[.pointer (some ⟨g366, 0, none⟩), .slice Ao41 y367.length co41] ?_; (with_reducible refine (spec_l01PickInt.calls g366 t363 t364 t365 _ _ y367 t370 t371 t372 w _ ?side1 ?side2 ?side3 ?side4 ?side5 A3.out).mono ?_); (case side1 => exact yI HI366); (case side2 => exact yw HB); (case side3 => exact zI (Kd.R_reads' HO369.out).2.2); (case side4 => exact (Kd.R_reads' HO369.out).2.1); (case side5 => exact far_slice (IsS78.own_ne HI366.out HO369.out (by decide))); rintro e w42 ⟨rfl, hi, hb, hk⟩; refine ⟨_, rfl, ?_⟩; replace HO369 := Aside0.mk (Kd.R_mono (Kd.R_keep (IsS78.apart (show IsS78 w _ g366 t363 t364 t365 from yI HI366) (zo HO369.out) (by decide)) hk (fun _ h => h.2)) (fun _ h => h.1)); replace HB := Aside0.mk (hb); replace HI366 := Aside0.mk (hi); clear hi hb hk) | ((with_reducible refine gate_dst (N := 15) rfl ?_); refine Kd.R_lit Kd.string _ 9 ?hg (N := 15) ?hd (xs := ([(⟨#[]⟩ : ByteArray), (⟨#[42]⟩ : ByteArray), (⟨#[53, 58, 42]⟩ : ByteArray), (⟨#[42, 58, 51]⟩ : ByteArray), (⟨#[55, 44, 49, 44, 50]⟩ : ByteArray), (⟨#[51, 58, 49]⟩ : ByteArray), (⟨#[48]⟩ : ByteArray), (⟨#[49, 58]⟩ : ByteArray), (⟨#[44]⟩ : ByteArray), (⟨#[49, 48, 48, 48, 48]⟩ : ByteArray), (⟨#[49, 44, 44, 50]⟩ : ByteArray), (⟨#[52, 58, 120]⟩ : ByteArray), (⟨#[48, 48, 49, 50]⟩ : ByteArray), (⟨#[48, 48, 48, 49, 50]⟩ : ByteArray), (⟨#[50, 58, 50, 44, 51]⟩ : ByteArray)] : List ByteArray)) (inner := [.string (⟨#[]⟩ : ByteArray), .string (⟨#[42]⟩ : ByteArray), .string (⟨#[53, 58, 42]⟩ : ByteArray), .string (⟨#[42, 58, 51]⟩ : ByteArray), .string (⟨#[55, 44, 49, 44, 50]⟩ : ByteArray), .string (⟨#[51, 58, 49]⟩ : ByteArray), .string (⟨#[48]⟩ : ByteArray), .string (⟨#[49, 58]⟩ : ByteArray), .string (⟨#[44]⟩ : ByteArray), .string (⟨#[49, 48, 48, 48, 48]⟩ : ByteArray), .string (⟨#[49, 44, 44, 50]⟩ : ByteArray), .string (⟨#[52, 58, 120]⟩ : ByteArray), .string (⟨#[48, 48, 49, 50]⟩ : ByteArray), .string (⟨#[48, 48, 48, 49, 50]⟩ : ByteArray), .string (⟨#[50, 58, 50, 44, 51]⟩ : ByteArray)]) (ok := fun _ => True) (okp := fun _ => True) ?hr ?hp (fun _ hk => hk) trivial (Below.refl _ _) (Nat.le_refl _) (by simp) ?_; (case hd => rfl); (case hg => rfl); (case hr => first | (go_simp; done) | (go_simp; rfl)); (case hp => exact (Reps.one (show Kd.M Kd.string _ _ _ (⟨#[]⟩ : ByteArray) [.string (⟨#[]⟩ : ByteArray)] from rfl) (Reps.one (show Kd.M Kd.string _ _ _ (⟨#[42]⟩ : ByteArray) [.string (⟨#[42]⟩ : ByteArray)] from rfl) (Reps.one (show Kd.M Kd.string _ _ _ (⟨#[53, 58, 42]⟩ : ByteArray) [.string (⟨#[53, 58, 42]⟩ : ByteArray)] from rfl) (Reps.one (show Kd.M Kd.string _ _ _ (⟨#[42, 58, 51]⟩ : ByteArray) [.string (⟨#[42, 58, 51]⟩ : ByteArray)] from rfl) (Reps.one (show Kd.M Kd.string _ _ _ (⟨#[55, 44, 49, 44, 50]⟩ : ByteArray) [.string (⟨#[55, 44, 49, 44, 50]⟩ : ByteArray)] from rfl) (Reps.one (show Kd.M Kd.string _ _ _ (⟨#[51, 58, 49]⟩ : ByteArray) [.string (⟨#[51, 58, 49]⟩ : ByteArray)] from rfl) (Reps.one (show Kd.M Kd.string _ _ _ (⟨#[48]⟩ : ByteArray) [.string (⟨#[48]⟩ : ByteArray)] from rfl) (Reps.one (show Kd.M Kd.string _ _ _ (⟨#[49, 58]⟩ : ByteArray) [.string (⟨#[49, 58]⟩ : ByteArray)] from rfl) (Reps.one (show Kd.M Kd.string _ _ _ (⟨#[44]⟩ : ByteArray) [.string (⟨#[44]⟩ : ByteArray)] from rfl) (Reps.one (show Kd.M Kd.string _ _ _ (⟨#[49, 48, 48, 48, 48]⟩ : ByteArray) [.string (⟨#[49, 48, 48, 48, 48]⟩ : ByteArray)] from rfl) (Reps.one (show Kd.M Kd.string _ _ _ (⟨#[49, 44, 44, 50]⟩ : ByteArray) [.string (⟨#[49, 44, 44, 50]⟩ : ByteArray)] from rfl) (Reps.one (show Kd.M Kd.string _ _ _ (⟨#[52, 58, 120]⟩ : ByteArray) [.string (⟨#[52, 58, 120]⟩ : ByteArray)] from rfl) (Reps.one (show Kd.M Kd.string _ _ _ (⟨#[48, 48, 49, 50]⟩ : ByteArray) [.string (⟨#[48, 48, 49, 50]⟩ : ByteArray)] from rfl) (Reps.one (show Kd.M Kd.string _ _ _ (⟨#[48, 48, 48, 49, 50]⟩ : ByteArray) [.string (⟨#[48, 48, 48, 49, 50]⟩ : ByteArray)] from rfl) (Reps.one (show Kd.M Kd.string _ _ _ (⟨#[50, 58, 50, 44, 51]⟩ : ByteArray) [.string (⟨#[50, 58, 50, 44, 51]⟩ : ByteArray)] from rfl) (Reps.none _ _))))))))))))))))); intro v374 w43 ho44 hb hg_ hnew_; clear hg_ hnew_; (first | rw [← Ny373.out] at ho44 | (simp only [Int.reduceToNat] at ho44; rw [← Ny373.out] at ho44)); replace HO369 := Aside0.mk (Kd.R_below (zo HO369.out) hb); have HO375 := Aside0.mk (Kd.R_lower ho44 (below_size (yw HB))); replace HB := ys HB hb; replace HI366 := Aside0.mk (IsS78.below (yI HI366) hb); clear hb ho44; obtain ⟨Ao45, co45, eo45⟩ := Kd.R_slice HO375.out; subst eo45) | ((with_reducible refine gate_callee (f := 46) rfl ?_); refine zG (some 16) Tryd.func46 #[.pointer (some ⟨g366, 0, none⟩), .slice Ao45 y373.length co45] ?_; (with_reducible refine (spec_l01Pick.calls g366 t363 t371 t372 _ _ y373 t376 t377 t378 w _ ?side1 ?side2 ?side3 ?side4 ?side5 A4.out).mono ?_); (case side1 => exact yI HI366); (case side2 => exact yw HB); (case side3 => exact zI (Kd.R_reads' HO375.out).2.2); (case side4 => exact (Kd.R_reads' HO375.out).2.1); (case side5 => exact far_slice (IsS78.own_ne HI366.out HO375.out (by decide))); rintro e w46 ⟨rfl, hi, hb, hk⟩; refine ⟨_, rfl, ?_⟩; replace HO369 := Aside0.mk (Kd.R_mono (Kd.R_keep (IsS78.apart (show IsS78 w _ g366 t363 t371 t372 from yI HI366) (zo HO369.out) (by decide)) hk (fun _ h => h.2)) (fun _ h => h.1)); replace HO375 := Aside0.mk (Kd.R_mono (Kd.R_keep (IsS78.apart (show IsS78 w _ g366 t363 t371 t372 from yI HI366) (zo HO375.out) (by decide)) hk (fun _ h => h.2)) (fun _ h => h.1)); replace HB := Aside0.mk (hb); replace HI366 := Aside0.mk (hi); clear hi hb hk) | ((with_reducible refine gate_callee (f := 47) rfl ?_); refine zG (some 18) Tryd.func47 #[.pointer (some ⟨g366, 0, none⟩), .int .i64 3] ?_; (with_reducible refine (spec_l01Below.calls g366 t363 t377 t378 3 t379 t380 t381 w _ ?side1 ?side2 A5.out).mono ?_); (case side1 => exact yI HI366); (case side2 => exact yw HB); rintro e w47 ⟨rfl, hi, hb, hk⟩; refine ⟨_, rfl, ?_⟩; replace HO369 := Aside0.mk (Kd.R_mono (Kd.R_keep (IsS78.apart (show IsS78 w _ g366 t363 t377 t378 from yI HI366) (zo HO369.out) (by decide)) hk (fun _ h => h.2)) (fun _ h => h.1)); replace HO375 := Aside0.mk (Kd.R_mono (Kd.R_keep (IsS78.apart (show IsS78 w _ g366 t363 t377 t378 from yI HI366) (zo HO375.out) (by decide)) hk (fun _ h => h.2)) (fun _ h => h.1)); replace HB := Aside0.mk (hb); replace HI366 := Aside0.mk (hi); clear hi hb hk) | ((with_reducible refine gate_callee (f := 35) rfl ?_); refine zG (some 20) Tryd.func35 #[.pointer (some ⟨g366, 0, none⟩)] ?_; (with_reducible refine (spec_l05Any.calls k g366 t363 t380 t381 t382 t385 t386 w _ ?side1 ?side2 A6.out).mono ?_); (case side1 => exact yI HI366); (case side2 => exact yw HB); rintro e w48 ⟨v383, rfl, ho0, hi, hb, hk⟩; refine ⟨_, rfl, ?_⟩; replace HO369 := Aside0.mk (Kd.R_mono (Kd.R_keep (IsS78.apart (show IsS78 w _ g366 t363 t380 t381 from yI HI366) (zo HO369.out) (by decide)) hk (fun _ h => h.2)) (fun _ h => h.1)); replace HO375 := Aside0.mk (Kd.R_mono (Kd.R_keep (IsS78.apart (show IsS78 w _ g366 t363 t380 t381 from yI HI366) (zo HO375.out) (by decide)) hk (fun _ h => h.2)) (fun _ h => h.1)); have HO384 := Aside0.mk (Kd.R_lower ho0 (below_size (yw HB))); replace HB := Aside0.mk (hb); replace HI366 := Aside0.mk (hi); clear ho0 hi hb hk; obtain ⟨Ao49, co49, eo49⟩ := Kd.R_slice HO384.out; subst eo49) | ((with_reducible refine gate_callee (f := 26) rfl ?_); refine zG (some 21) Tryd.func26 #[.slice Ao49 t382.length co49] ?_; (with_reducible refine (spec_SetText.calls k _ _ t382 t387 _ ?side1 ?side2 A7.out).mono ?_); (case side1 => exact zI (Kd.R_reads' HO384.out).2.2); (case side2 => exact (Kd.R_reads' HO384.out).2.1); rintro e w50 ⟨rfl, hb⟩; refine ⟨_, rfl, ?_⟩; replace HO369 := Aside0.mk (Kd.R_below (zo HO369.out) hb); replace HO375 := Aside0.mk (Kd.R_below (zo HO375.out) hb); replace HO384 := Aside0.mk (Kd.R_below (zo HO384.out) hb); replace HB := ys HB hb; replace HI366 := Aside0.mk (IsS78.below (yI HI366) hb); clear hb))
   go_ret2
   exact ⟨ze, yw HB⟩

/-! ### strings_Split: function 48, given by hand -/
def strings_Split.f (a0 : ByteArray) (a1 : ByteArray) : Option (List ByteArray) := if a0.size < 4294967281 ∧ 1 ≤ a1.size ∧ (Lib.splitB a1 0 (Lib.countB a0 a1) a0).length ≤ 9223372036854775807 then some (Lib.splitB a1 0 (Lib.countB a0 a1) a0) else none
theorem strings_Split.calls (a0 : ByteArray) (a1 : ByteArray) (r : List ByteArray) (w : World) (hgl : GlobOk w) (h : strings_Split.f a0 a1 = some r) :
  Calls Tryd.prog 48 #[.string a0, .string a1] w fun e w' => ∃ v0_ : Value, e = .returned (v0_) ∧ Kd.R Kd.string 9 w' w.heap.size (fun _ => True) v0_ r ∧ Below w.heap.size w w' := by
 unfold strings_Split.f at h
 by_cases hl : a0.size < 4294967281 ∧ 1 ≤ a1.size ∧ (Lib.splitB a1 0 (Lib.countB a0 a1) a0).length ≤ 9223372036854775807
 case neg => rw [if_neg hl] at h; cases h
 rw [if_pos hl] at h
 obtain rfl := Option.some.inj h
 obtain ⟨m, hm⟩ := hgl.ml
 have hlen := Lib.splitB_all a1 hl.2.1 0 _ a0 rfl
 refine (Tryd.strings_Split a0 a1 m w hl.1 hm hl.2.1).mono fun e w' ⟨he, hw⟩ => ?_
 rw [← hlen] at he
 refine ⟨_, he, ⟨fun _ _ => trivial, ?_⟩, hw ▸ below_alloc (Below.refl _ _) _⟩
 rw [hw]
 generalize Lib.splitB a1 0 (Lib.countB a0 a1) a0 = l at *
 exact OwnRow.lit w w.heap.size (inner := l.map Value.string) (by
  refine ⟨by simp [Kd.string, Kd.scalar], fun j p hj => ?_⟩
  show ((l.map Value.string).drop (j * 1)).take 1 = [Value.string p]
  rw [Nat.mul_one]
  have hj' : (l.map Value.string)[j]? = some (Value.string p) := by rw [List.getElem?_map, hj]; rfl
  obtain ⟨hlt, e⟩ := List.getElem?_eq_some_iff.1 hj'
  rw [List.drop_eq_getElem_cons hlt, e]; rfl) (Nat.le_refl _) hl.2.2

/-! ### strings_Cut: function 49, given by hand -/
def strings_Cut.f (a0 : ByteArray) (a1 : ByteArray) : Option (ByteArray × ByteArray × Bool) := if a0.size < 4294967281 then some (⟨(Lib.cut a0.data.toList a1.data.toList).1.toArray⟩, ⟨(Lib.cut a0.data.toList a1.data.toList).2.1.toArray⟩, (Lib.cut a0.data.toList a1.data.toList).2.2) else none
theorem strings_Cut.calls (a0 : ByteArray) (a1 : ByteArray) (r1 : ByteArray) (r2 : ByteArray) (r3 : Bool) (w : World) (hgl : GlobOk w) (h : strings_Cut.f a0 a1 = some (r1, r2, r3)) :
  Calls Tryd.prog 49 #[.string a0, .string a1] w fun e w' => e = .returned (.tuple #[.string r1, .string r2, .bool r3]) ∧ Below w.heap.size w w' := by
 unfold strings_Cut.f at h
 by_cases hl : a0.size < 4294967281
 case neg => rw [if_neg hl] at h; cases h
 rw [if_pos hl] at h
 simp only [Option.some.injEq, Prod.mk.injEq] at h
 obtain ⟨rfl, rfl, rfl⟩ := h
 obtain ⟨m, hm⟩ := hgl.ml
 exact (Tryd.strings_Cut a0 a1 m w hl hm).mono fun e w' ⟨he, n, hw⟩ => ⟨he, hw ▸ pw_below_drewN (Below.refl _ _) n⟩

/-! ### impl_readUid: function 50 -/
def impl_readUid.l0 : Nat → ByteArray → Int → Int → Int → Option (Int × Bool)
 | 0, _, _, _, _ => none
 | k + 1, x0, x6, x12, x13 => if x13 < x12 then (if 0 ≤ x13 then (if x13 < (x0.size : Int) then ((impl_within.f (wrap64 (bt x0 x13)) 48 57).bind fun t388 => (if t388 = true then (impl_readUid.l0 k x0 (Int.tmod (wrap64 ((wrap64 (10 * x6)) + (((bt x0 x13) - 48) % 256))) 1000000000) x12 (wrap64 (x13 + 1))) else (some (0, false)))) else (none)) else (none)) else ((impl_within.f (x0.size : Int) 1 4).bind fun t389 => (if t389 = true then (some (x6, decide (x6 > 0))) else (some (x6, false))))
def impl_readUid.f (k : Nat) (a0 : ByteArray) (a1 : Int) : Option (Int × Bool) := if a0.toList = ([42] : List UInt8) then (some (a1, true)) else (impl_readUid.l0 k a0 0 (a0.size : Int) 0)
theorem impl_readUid.mono_l : ∀ k, (∀ y0 y1 y2 y3, LeO (impl_readUid.l0 k y0 y1 y2 y3) (impl_readUid.l0 (k + 1) y0 y1 y2 y3))
 | 0 => fun _ _ _ _ r h => by simp [impl_readUid.l0] at h
 | k + 1 => by
  have ih0 := impl_readUid.mono_l k
  ·intro y0 y1 y2 y3
   unfold impl_readUid.l0
   repeat' first
   | (with_reducible exact ih0 _ _ _ _)
   | (with_reducible exact LeO.refl _)
   | (with_reducible exact LeO.none _)
   | (with_reducible refine LeO.ite ?_ ?_)
   | (with_reducible refine LeO.bind ?_ (fun _ => ?_))
   | exact ih0 _ _ _ _
   | exact LeO.none _
   | refine LeO.ite ?_ ?_
   | refine LeO.bind ?_ (fun _ => ?_)
theorem impl_readUid.mono : ∀ a0 a1 k, LeO (impl_readUid.f k a0 a1) (impl_readUid.f (k + 1) a0 a1) := by
 intro a0 a1 k
 have ih0 := impl_readUid.mono_l k
 unfold impl_readUid.f
 repeat' first
   | (with_reducible exact ih0 _ _ _ _)
   | (with_reducible exact LeO.refl _)
   | (with_reducible exact LeO.none _)
   | (with_reducible refine LeO.ite ?_ ?_)
   | (with_reducible refine LeO.bind ?_ (fun _ => ?_))
   | exact ih0 _ _ _ _
   | exact LeO.none _
   | refine LeO.ite ?_ ?_
   | refine LeO.bind ?_ (fun _ => ?_)
set_option maxHeartbeats 8000000 in
set_option maxRecDepth 100000 in
theorem impl_readUid.calls (k : Nat) (a0 : ByteArray) (a1 : Int) (r1 : Int) (r2 : Bool) (w : World) (h : impl_readUid.f k a0 a1 = some (r1, r2)) :
  Calls Tryd.prog 50 #[.string a0, .int .i64 a1] w fun e w' => e = .returned (.tuple #[.int .i64 r1, .bool r2]) ∧ Drawn0 w w' := by
 have H : (if a0.toList = ([42] : List UInt8) then (some (a1, true)) else (impl_readUid.l0 k a0 0 (a0.size : Int) 0)) = some (r1, r2) := h
 clear h
 by_cases c3 : a0.toList = ([42] : List UInt8)
 ·rw [if_pos c3] at H
  have c3b0 : (a0.toList == ([42] : List UInt8)) = true := beq_iff_eq.mpr c3
  have c3b1 : (a0.toList != ([42] : List UInt8)) = false := bne_eq_false_iff_eq.mpr c3
  clear c3
  simp only [Option.some.injEq, Prod.mk.injEq] at H
  obtain ⟨rfl, rfl⟩ := H
  go_enter Tryd.func50, Tryd.ntmps50
  go_wp2
  go_ret2
  exact ⟨by first | rfl | (simp; done) | (simp [*]; done), by repeat (first | exact Drawn0.refl _ | apply Drawn0.step)⟩
 ·rw [if_neg c3] at H
  have c3b0 : (a0.toList == ([42] : List UInt8)) = false := beq_eq_false_iff_ne.mpr c3
  have c3b1 : (a0.toList != ([42] : List UInt8)) = true := bne_iff_ne.mpr c3
  have H' := Aside0.mk H
  clear H
  go_enter Tryd.func50, Tryd.ntmps50
  go_wp2
  go_loopg [6, 13] k (fun kq v6 v13 w' => ∃ (x6_1 : Int) (x13_1 : Int), v6 = .int .i64 x6_1 ∧ v13 = .int .i64 x13_1 ∧ Aside0 (impl_readUid.l0 kq a0 x6_1 (a0.size : Int) x13_1 = some (r1, r2)) ∧ Aside0 (kq ≤ k) ∧ Drawn0 w w')
  case atStart => exact ⟨(0), (0), zf, zf, H', ⟨Nat.le_refl _⟩, by repeat (first | exact Drawn0.refl _ | apply Drawn0.step)⟩
  case round =>
   clear H'
   try clear p2
   try clear c3
   try clear c3b0
   try clear c3b1
   obtain ⟨x6_1, x13_1, rfl, rfl, HA, HK1, ⟨m1, rfl⟩⟩ := hrel
   cases gk with
   | zero => exact absurd HA.out (by simp [impl_readUid.l0])
   | succ k1 =>
    have H := HA.out
    clear HA
    simp only [impl_readUid.l0] at H
    by_cases c4 : x13_1 < (a0.size : Int)
    ·rw [if_pos c4] at H
     have c4b0 : decide (x13_1 < (a0.size : Int)) = true := decide_eq_true c4
     clear c4
     by_cases c5 : 0 ≤ x13_1
     ·rw [if_pos c5] at H
      have c5b0 : decide (0 ≤ x13_1) = true := decide_eq_true c5
      clear c5
      by_cases c6 : x13_1 < (a0.size : Int)
      ·rw [if_pos c6] at H
       have c6b0 : decide (x13_1 < (a0.size : Int)) = true := decide_eq_true c6
       clear c6
       replace H := Option.bind_eq_some_iff.mp H
       obtain ⟨t388, A80, H⟩ := H
       have A8 := Aside0.mk A80
       clear A80
       by_cases c9 : t388 = true
       ·subst c9
        rw [if_pos rfl] at H
        have H' := Aside0.mk H
        clear H
        have p7 : 0 ≤ (x13_1 : Int) := of_decide_eq_true za
        have q7 : x13_1 < (a0.size : Int) := of_decide_eq_true za
        have hx7 := bt_at a0 x13_1
        replace p7 := eq_true p7
        replace q7 := eq_true q7
        go_wp2_with (first | ((with_reducible refine gate_callee (f := 37) rfl ?_); refine zG (some 20) Tryd.func37 #[.int .i64 (wrap64 (bt a0 x13_1)), .int .i64 48, .int .i64 57] ?_; (with_reducible refine (impl_within.calls (wrap64 (bt a0 x13_1)) 48 57 true _ A8.out).mono ?_); rintro e w' ⟨rfl, ⟨nd, rfl⟩⟩; refine ⟨_, rfl, ?_⟩; have p10 : 0 ≤ (x13_1 : Int) := of_decide_eq_true za; have q10 : x13_1 < (a0.size : Int) := of_decide_eq_true za; have hx10 := bt_at a0 x13_1; replace p10 := eq_true p10; replace q10 := eq_true q10))
        go_roundg k1
        case measure => have := HK1.out; omega
        case rel => exact ⟨(Int.tmod (wrap64 ((wrap64 (10 * x6_1)) + (((bt a0 x13_1) - 48) % 256))) 1000000000), (wrap64 (x13_1 + 1)), zf, zf, H', ⟨by have := HK1.out; omega⟩, by repeat (first | exact Drawn0.refl _ | apply Drawn0.step)⟩
       ·replace c9 := Bool.eq_false_iff.mpr c9
        subst c9
        rw [if_neg (show ¬ (false = true) by decide)] at H
        simp only [Option.some.injEq, Prod.mk.injEq] at H
        obtain ⟨rfl, rfl⟩ := H
        have p7 : 0 ≤ (x13_1 : Int) := of_decide_eq_true za
        have q7 : x13_1 < (a0.size : Int) := of_decide_eq_true za
        have hx7 := bt_at a0 x13_1
        replace p7 := eq_true p7
        replace q7 := eq_true q7
        go_wp2_with (first | ((with_reducible refine gate_callee (f := 37) rfl ?_); refine zG (some 20) Tryd.func37 #[.int .i64 (wrap64 (bt a0 x13_1)), .int .i64 48, .int .i64 57] ?_; (with_reducible refine (impl_within.calls (wrap64 (bt a0 x13_1)) 48 57 false _ A8.out).mono ?_); rintro e w' ⟨rfl, ⟨nd, rfl⟩⟩; refine ⟨_, rfl, ?_⟩))
        go_ret2
        exact ⟨by first | rfl | (simp; done) | (simp [*]; done), by repeat (first | exact Drawn0.refl _ | apply Drawn0.step)⟩
      ·rw [if_neg c6] at H
       exact absurd H (by simp)
     ·rw [if_neg c5] at H
      exact absurd H (by simp)
    ·rw [if_neg c4] at H
     have c4b0 : decide (x13_1 < (a0.size : Int)) = false := decide_eq_false c4
     clear c4
     replace H := Option.bind_eq_some_iff.mp H
     obtain ⟨t389, A110, H⟩ := H
     have A11 := Aside0.mk A110
     clear A110
     by_cases c12 : t389 = true
     ·subst c12
      rw [if_pos rfl] at H
      simp only [Option.some.injEq, Prod.mk.injEq] at H
      obtain ⟨rfl, rfl⟩ := H
      go_wp2_with (first | ((with_reducible refine gate_callee (f := 37) rfl ?_); refine zG (some 35) Tryd.func37 #[.int .i64 (a0.size : Int), .int .i64 1, .int .i64 4] ?_; (with_reducible refine (impl_within.calls (a0.size : Int) 1 4 true _ A11.out).mono ?_); rintro e w' ⟨rfl, ⟨nd, rfl⟩⟩; refine ⟨_, rfl, ?_⟩))
      go_ret2
      exact ⟨by first | rfl | (simp; done) | (simp [*]; done), by repeat (first | exact Drawn0.refl _ | apply Drawn0.step)⟩
     ·replace c12 := Bool.eq_false_iff.mpr c12
      subst c12
      rw [if_neg (show ¬ (false = true) by decide)] at H
      simp only [Option.some.injEq, Prod.mk.injEq] at H
      obtain ⟨rfl, rfl⟩ := H
      go_wp2_with (first | ((with_reducible refine gate_callee (f := 37) rfl ?_); refine zG (some 35) Tryd.func37 #[.int .i64 (a0.size : Int), .int .i64 1, .int .i64 4] ?_; (with_reducible refine (impl_within.calls (a0.size : Int) 1 4 false _ A11.out).mono ?_); rintro e w' ⟨rfl, ⟨nd, rfl⟩⟩; refine ⟨_, rfl, ?_⟩))
      go_ret2
      exact ⟨by first | rfl | (simp; done) | (simp [*]; done), by repeat (first | exact Drawn0.refl _ | apply Drawn0.step)⟩

/-! ### impl_ReadSet_1: function 51, given by hand -/
 namespace impl_ReadSet_1
 section
 open Go.Proofs.YthngecooaddddaaDoor.Gen
 theorem impl_within_ev (a b c : Int) : impl_within.f a b c = some (decide (b ≤ a ∧ a ≤ c)) := by
  unfold impl_within.f
  by_cases h : a ≥ b
  ·rw [if_pos h]; congr 1; simp; omega
  ·rw [if_neg h]; congr 1; simp; omega
 
 /-- a range as a pair -/
 def pr (x : S40) : Int × Int := (x.f0, x.f1)
 theorem rd45_at (l : List S40) (i : Nat) (h : i < l.length) : rd_T40 l (i : Int) = l[i] := by
  unfold rd_T40
  rw [Int.toNat_natCast, List.getD_eq_getElem?_getD, List.getElem?_eq_getElem h]; rfl
 theorem impl_SetHas_l0 (l : List S40) (hl : l.length ≤ 1048576) (n : Int) : ∀ (d i : Nat), i + d = l.length → Ev (fun k => impl_SetHas.l0 k n l (l.length : Int) (i : Int)) (hasL ((l.drop i).map pr) n) := by
  intro d
  induction d with
  | zero =>
   intro i hi
   refine Ev.step (impl_SetHas.l0.eq_2 n l (l.length : Int) (i : Int)) (Ev.no (by omega) (Ev.const ?_))
   rw [List.drop_eq_nil_of_le (by omega)]; rfl
  | succ d ih =>
   intro i hi
   have hlt : i < l.length := by omega
   have e := rd45_at l i hlt
   refine Ev.step (impl_SetHas.l0.eq_2 n l (l.length : Int) (i : Int)) (Ev.yes (by omega) (Ev.yes (by omega) (Ev.yes (by omega) (Ev.bindc (impl_within_ev _ _ _) ?_))))
   rw [w64 (by omega) (by omega), List.drop_eq_getElem_cons hlt, ← e]
   generalize rd_T40 l (i : Int) = x
   have e2 : hasL ((x :: l.drop (i + 1)).map pr) n = (decide (x.f0 ≤ n ∧ n ≤ x.f1) || hasL ((l.drop (i + 1)).map pr) n) := rfl
   rw [e2]
   have := ih (i + 1) (by omega)
   refine Ev.ite (fun h => ?_) (fun h => ?_)
   ·rw [h]; exact Ev.now _
   ·rw [Bool.not_eq_true] at h
    rw [h, Bool.false_or]; exact this
 theorem impl_SetHas_ev (l : List S40) (hl : l.length ≤ 1048576) (n : Int) : Ev (fun k => impl_SetHas.f k l n) (hasL (l.map pr) n) := impl_SetHas_l0 l hl n l.length 0 (by omega)
 
 theorem pv (p : Int → Bool) (g g' : Nat) (lb lb' : Array Value) : ∀ k xs x, impl_setOf.l0 k ⟨p, g, lb⟩ xs x = impl_setOf.l0 k ⟨p, g', lb'⟩ xs x := by
  intro k
  induction k with
  | zero => intro xs x; rfl
  | succ k ih =>
   intro xs x
   simp only [impl_setOf.l0, PVcall.f, Option.bind_some, ih]
 def holds (l0 : List S40) (n : Int) : Bool := hasL (l0.map pr) n
 /-- the closure -/
 theorem closure (B : Nat) (A0 : Option Addr) (c0 : Nat) (l0 : List S40) (w : World) (hr0 : Kd.C k40 w A0 l0.length l0) (hc0 : l0.length ≤ c0) (h0 : l0.length ≤ 1048576)
   (hx0 : w.cell? ⟨B, 0, none⟩ = some (.slice A0 l0.length c0)) (n : Int) :
   Calls Tryd.prog 51 #[.int .i64 n, .pointer (some ⟨B, 0, none⟩)] w fun e w' => e = .returned (.bool (holds l0 n)) ∧ Below w.heap.size w w' := by
  obtain ⟨k0, e0⟩ := Ev.rounds (impl_SetHas_ev l0 h0 n)
  have G0 := Aside0.mk (impl_SetHas.calls k0 A0 c0 l0 n _ w hr0 hc0 e0)
  unfold holds
  generalize hasL (l0.map pr) n = b0 at G0 ⊢
  clear e0 hr0 h0 hc0
  go_enter Tryd.func51, Tryd.ntmps51
  go_wp2_with (first | (go_at_call 41; refine G0.out.mono ?_; rintro e W1 ⟨rfl, HB⟩; have HBa := Aside0.mk HB; clear HB G0))
  go_ret
  exact ⟨rfl, HBa.out⟩
 end
 end impl_ReadSet_1
/-- impl.setOf with this closure, its list l0 -/
def impl_ReadSet_1.f (k : Nat) (l0 : List S40) : Option (List S40 × Bool) := if l0.length ≤ 1048576 then impl_setOf.f k ⟨impl_ReadSet_1.holds l0, 0, #[]⟩ else none
theorem impl_ReadSet_1.mono : ∀ a0 k, LeO (impl_ReadSet_1.f k a0) (impl_ReadSet_1.f (k + 1) a0) := by
 intro a0 k
 unfold impl_ReadSet_1.f
 exact LeO.ite (impl_setOf.mono _ _) (LeO.refl _)
theorem impl_ReadSet_1.calls (gb : Nat) (k : Nat) (A0 : Option Addr) (c0 : Nat) (l0 : List (S40)) (r1 : List (S40)) (r2 : Bool) (w : World) (hr0 : Kd.C k40 w A0 l0.length l0) (hc0 : l0.length ≤ c0) (hx0 : w.cell? ⟨gb, 0, none⟩ = some (.slice A0 l0.length c0)) (h : impl_ReadSet_1.f k l0 = some (r1, r2)) :
  Calls Tryd.prog 39 #[.func (.func 51) #[] #[.pointer (some ⟨gb, 0, none⟩)]] w fun e w' => ∃ v0_ : Value, e = .returned (.tuple #[v0_, .bool r2]) ∧ Kd.R k40 40 w' w.heap.size (fun _ => True) v0_ r1 ∧ Below w.heap.size w w' := by
 unfold impl_ReadSet_1.f at h
 by_cases hl : l0.length ≤ 1048576
 case neg => rw [if_neg hl] at h; cases h
 rw [if_pos hl] at h
 exact impl_setOf.calls k ⟨impl_ReadSet_1.holds l0, 51, #[.pointer (some ⟨gb, 0, none⟩)]⟩ r1 r2 w
  ⟨enters_of Tryd.func51 (by kernel_rfl) rfl, fun W x hb => by
   show Calls Tryd.prog 51 #[.int .i64 x, .pointer (some ⟨gb, 0, none⟩)] W _
   exact impl_ReadSet_1.closure gb A0 c0 l0 W (Kd.C_below hr0 hb) hc0 hl ((hb.cell (p := ⟨gb, 0, none⟩) (World.block_lt_of_cell? w _ hx0)).trans hx0) x⟩
  (by unfold impl_setOf.f; rw [impl_ReadSet_1.pv _ 51 0 _ #[]]; exact h)

end Go.Proofs.YthngecooaddddaaDoor.PFnSetsTold
