import Derived.Test.YtdiecogmaiglaaaQFnActsx0
import Derived.Test.YtdiecogmaiglaaaQFnActsx9
import Derived.Test.YtdiecogmaiglaaaQFnActsx13
import Derived.Test.YtdiecogmaiglaaaQFnActsx14
namespace Go.Proofs.Ytdiecogmaiglaaa.PFnActs
open Go.RowKit Go.Proofs.YtdiecogmaiglaaaW.PrintWords Go.Proofs.YtdiecogmaiglaaaW.PrintLast Go.Proofs.YtdiecogmaiglaaaW.PrintMore
attribute [local go_sem] max2_int min2_int max_two min_two max_three min_three max_four min_four   -- for this text's walks alone
set_option linter.unusedVariables false
set_option linter.unusedSimpArgs false

/-! ### spec_l03Disk: function 70 -/
mutual
def spec_l03Disk.l0 : Nat → Int → List Int → Int → Int → List (S45) → Option ((List (S45)) × Int × Int)
 | 0, _, _, _, _, _ => none
 | k + 1, x4, x1000, x1001, x1002, x306000 => (spec_l01Below.f x1000 x1001 x1002 6).bind fun bt306 => (if x4 < bt306.1 then ((spec_l01Below.f x1000 bt306.2.1 bt306.2.2 9).bind fun bt309 => ((spec_l01Text.f k x1000 bt309.2.1 bt309.2.2 bt309.1).bind fun bt312 => ((spec_l03Named.f x1000 bt312.2.1 bt312.2.2).bind fun bt315 => ((spec_l01Below.f x1000 bt315.2.1 bt315.2.2 (wrap64 ((bt312.1.size : Int) + 1))).bind fun bt318 => ((spec_l03Put.f k x306000 bt315.1 bt312.1 bt318.1).bind fun t321 => (spec_l03Disk.l0 k (wrap64 (x4 + 1)) x1000 bt318.2.1 bt318.2.2 t321)))))) else (if (x306000.length : Int) = 0 then (some (x306000, bt306.2.1, bt306.2.2)) else ((spec_l01Below.f x1000 bt306.2.1 bt306.2.2 (x306000.length : Int)).bind fun bt324 => ((spec_l01Below.f x1000 bt324.2.1 bt324.2.2 40).bind fun bt327 => (if bt327.1 = 0 then (if 0 ≤ bt324.1 then (if bt324.1 < (x306000.length : Int) then ((spec_l01PickInt.f x1000 bt327.2.1 bt327.2.2 (([(-1), wrap64 ((((rd_T45 x306000 bt324.1).f1).size : Int) + 1)] : List Int))).bind fun bt334 => (some ((x306000.set (bt324.1 : Int).toNat (⟨(rd_T45 x306000 bt324.1).f0, (rd_T45 x306000 bt324.1).f1, bt334.1⟩ : S45)), bt334.2.1, bt334.2.2))) else (none)) else (none)) else (if bt327.1 = 1 then (if 0 ≤ bt324.1 then (if bt324.1 < (x306000.length : Int) then (if x306000.length < 3518437208883 then (some ((x306000 ++ [(⟨(rd_T45 x306000 bt324.1).f0, (rd_T45 x306000 bt324.1).f1, (rd_T45 x306000 bt324.1).f2⟩ : S45)]), bt327.2.1, bt327.2.2)) else (none)) else (none)) else (none)) else (if bt327.1 = 2 then ((spec_l01Pick.f x1000 bt327.2.1 bt327.2.2 (([(⟨#[]⟩ : ByteArray), (⟨#[49, 50, 51, 52, 53, 54, 55, 56]⟩ : ByteArray), (⟨#[49, 50, 51, 52, 53, 54, 55, 56, 57]⟩ : ByteArray)] : List ByteArray))).bind fun bt345 => (if 0 ≤ bt324.1 then (if bt324.1 < (x306000.length : Int) then (some ((x306000.set (bt324.1 : Int).toNat (⟨bt345.1, (rd_T45 x306000 bt324.1).f1, (rd_T45 x306000 bt324.1).f2⟩ : S45)), bt345.2.1, bt345.2.2)) else (none)) else (none))) else (if bt327.1 = 3 then (spec_l03Disk.l1 k 0 x1000 bt327.2.1 bt327.2.2 (([] : List (S45)))) else (if bt327.1 = 4 then ((spec_l01Below.f x1000 bt327.2.1 bt327.2.2 3).bind fun bt359 => ((spec_l01Long.f k (wrap64 (19999 + bt359.1)) 65).bind fun t362 => (if 0 ≤ bt324.1 then (if bt324.1 < (x306000.length : Int) then (some ((x306000.set (bt324.1 : Int).toNat (⟨(rd_T45 x306000 bt324.1).f0, t362, (rd_T45 x306000 bt324.1).f2⟩ : S45)), bt359.2.1, bt359.2.2)) else (none)) else (none)))) else (some (x306000, bt327.2.1, bt327.2.2)))))))))))
def spec_l03Disk.l1 : Nat → Int → List Int → Int → Int → List (S45) → Option ((List (S45)) × Int × Int)
 | 0, _, _, _, _, _ => none
 | k + 1, x7, x1000, x1001, x1002, x306000 => (spec_l01Below.f x1000 x1001 x1002 2).bind fun bt352 => (if x7 < (wrap64 (30 + bt352.1)) then ((spec_Decimal.f k (wrap64 (100 + x7))).bind fun t355 => (if 1 + t355.size ≤ 9223372036854775807 then (if x306000.length < 3518437208883 then (spec_l03Disk.l1 k (wrap64 (x7 + 1)) x1000 bt352.2.1 bt352.2.2 (x306000 ++ [(⟨(⟨#[102]⟩ : ByteArray) ++ t355, (⟨#[]⟩ : ByteArray), 0⟩ : S45)])) else (none)) else (none))) else (some (x306000, bt352.2.1, bt352.2.2)))
end
def spec_l03Disk.f (k : Nat) (s0_0 : List Int) (s0_1 : Int) (s0_2 : Int) : Option ((List (S45)) × Int × Int) := spec_l03Disk.l0 k 0 s0_0 s0_1 s0_2 ([] : List (S45))
theorem spec_l03Disk.mono_l : ∀ k, (∀ y0 y1 y2 y3 y4, LeO (spec_l03Disk.l0 k y0 y1 y2 y3 y4) (spec_l03Disk.l0 (k + 1) y0 y1 y2 y3 y4)) ∧ (∀ y0 y1 y2 y3 y4, LeO (spec_l03Disk.l1 k y0 y1 y2 y3 y4) (spec_l03Disk.l1 (k + 1) y0 y1 y2 y3 y4))
 | 0 => ⟨fun _ _ _ _ _ r h => by simp [spec_l03Disk.l0] at h, fun _ _ _ _ _ r h => by simp [spec_l03Disk.l1] at h⟩
 | k + 1 => by
  obtain ⟨ih0, ih1⟩ := spec_l03Disk.mono_l k
  refine ⟨?_, ?_⟩
  ·intro y0 y1 y2 y3 y4
   unfold spec_l03Disk.l0
   repeat' first
   | (with_reducible exact ih0 _ _ _ _ _)
   | (with_reducible exact ih1 _ _ _ _ _)
   | (with_reducible exact spec_Decimal.mono _ _)
   | (with_reducible exact spec_l01Long.mono _ _ _)
   | (with_reducible exact spec_l01Text.mono _ _ _ _ _)
   | (with_reducible exact spec_l03Put.mono _ _ _ _ _)
   | (with_reducible exact LeO.refl _)
   | (with_reducible exact LeO.none _)
   | (with_reducible refine LeO.ite ?_ ?_)
   | (with_reducible refine LeO.bind ?_ (fun _ => ?_))
   | exact ih0 _ _ _ _ _
   | exact ih1 _ _ _ _ _
   | exact spec_Decimal.mono _ _
   | exact spec_l01Long.mono _ _ _
   | exact spec_l01Text.mono _ _ _ _ _
   | exact spec_l03Put.mono _ _ _ _ _
   | exact LeO.none _
   | refine LeO.ite ?_ ?_
   | refine LeO.bind ?_ (fun _ => ?_)
  intro y0 y1 y2 y3 y4
  unfold spec_l03Disk.l1
  repeat' first
  | (with_reducible exact ih0 _ _ _ _ _)
  | (with_reducible exact ih1 _ _ _ _ _)
  | (with_reducible exact spec_Decimal.mono _ _)
  | (with_reducible exact spec_l01Long.mono _ _ _)
  | (with_reducible exact spec_l01Text.mono _ _ _ _ _)
  | (with_reducible exact spec_l03Put.mono _ _ _ _ _)
  | (with_reducible exact LeO.refl _)
  | (with_reducible exact LeO.none _)
  | (with_reducible refine LeO.ite ?_ ?_)
  | (with_reducible refine LeO.bind ?_ (fun _ => ?_))
  | exact ih0 _ _ _ _ _
  | exact ih1 _ _ _ _ _
  | exact spec_Decimal.mono _ _
  | exact spec_l01Long.mono _ _ _
  | exact spec_l01Text.mono _ _ _ _ _
  | exact spec_l03Put.mono _ _ _ _ _
  | exact LeO.none _
  | refine LeO.ite ?_ ?_
  | refine LeO.bind ?_ (fun _ => ?_)
theorem spec_l03Disk.mono : ∀ a0 a1 a2 k, LeO (spec_l03Disk.f k a0 a1 a2) (spec_l03Disk.f (k + 1) a0 a1 a2) := by
 intro a0 a1 a2 k
 obtain ⟨ih0, ih1⟩ := spec_l03Disk.mono_l k
 unfold spec_l03Disk.f
 repeat' first
   | (with_reducible exact ih0 _ _ _ _ _)
   | (with_reducible exact ih1 _ _ _ _ _)
   | (with_reducible exact spec_Decimal.mono _ _)
   | (with_reducible exact spec_l01Long.mono _ _ _)
   | (with_reducible exact spec_l01Text.mono _ _ _ _ _)
   | (with_reducible exact spec_l03Put.mono _ _ _ _ _)
   | (with_reducible exact LeO.refl _)
   | (with_reducible exact LeO.none _)
   | (with_reducible refine LeO.ite ?_ ?_)
   | (with_reducible refine LeO.bind ?_ (fun _ => ?_))
   | exact ih0 _ _ _ _ _
   | exact ih1 _ _ _ _ _
   | exact spec_Decimal.mono _ _
   | exact spec_l01Long.mono _ _ _
   | exact spec_l01Text.mono _ _ _ _ _
   | exact spec_l03Put.mono _ _ _ _ _
   | exact LeO.none _
   | refine LeO.ite ?_ ?_
   | refine LeO.bind ?_ (fun _ => ?_)
def spec_l03Disk.T6 : Bool × List (List Nat × List Nat) := (true, [([], []), ([], []), ([1], [1]), ([], []), ([], []), ([], []), ([5], [5]), ([6], [6]), ([4, 7, 2], [4, 7]), ([2, 3, 8], [2, 3, 8]), ([0, 9, 8], [0, 9]), ([10, 10, 0, 1, 2, 3, 4, 5, 6, 7, 8, 9, 10], [10])])
def spec_l03Disk.B6 : List Nat := [0, 0, 2, 0, 0, 0, 32, 96, 246, 510, 1023, 2047]
theorem spec_l03Disk.tab6 : rtab .any (opsOf Try.f70 6) = spec_l03Disk.T6 := by kernel_rfl
theorem spec_l03Disk.bits6 : waitsOk spec_l03Disk.T6.2 spec_l03Disk.B6 = true := by kernel_rfl
def spec_l03Disk.T12 : Bool × List (List Nat × List Nat) := (true, [([], []), ([0], [0]), ([], []), ([], []), ([], []), ([4], [4]), ([], []), ([5, 6], [5, 6]), ([7], [7]), ([8], [8]), ([9], [9]), ([10], [10]), ([11], [11]), ([3, 12], [3, 12]), ([1, 2, 0, 1, 2, 3, 4, 5, 6, 7, 8, 9, 10, 11, 12, 13], [1, 2]), ([14, 0, 1, 2, 3, 4, 5, 6, 7, 8, 9, 10, 11, 12, 13], [14]), ([15, 13, 13, 0, 1, 2, 3, 4, 5, 6, 7, 8, 9, 10, 11, 12, 13], [13, 15])])
def spec_l03Disk.B12 : List Nat := [0, 1, 0, 0, 0, 16, 0, 112, 240, 496, 1008, 2032, 4080, 8184, 16383, 32767, 65535]
theorem spec_l03Disk.tab12 : rtab .any (opsOf Try.f70 12) = spec_l03Disk.T12 := by kernel_rfl
theorem spec_l03Disk.bits12 : waitsOk spec_l03Disk.T12.2 spec_l03Disk.B12 = true := by kernel_rfl
def spec_l03Disk.T14 : Bool × List (List Nat × List Nat) := (true, [([], []), ([0], [0]), ([], []), ([2], [2]), ([], []), ([3, 4], [3, 4]), ([5], [5]), ([6], [6]), ([1, 7], [1, 7]), ([0, 1, 2, 3, 4, 5, 6, 7, 8], []), ([9, 8, 8, 0, 1, 2, 3, 4, 5, 6, 7, 8], [8, 9])])
def spec_l03Disk.B14 : List Nat := [0, 1, 0, 4, 0, 28, 60, 124, 255, 511, 1023]
theorem spec_l03Disk.tab14 : rtab .any (opsOf Try.f70 14) = spec_l03Disk.T14 := by kernel_rfl
theorem spec_l03Disk.bits14 : waitsOk spec_l03Disk.T14.2 spec_l03Disk.B14 = true := by kernel_rfl
def spec_l03Disk.T16 : Bool × List (List Nat × List Nat) := (true, [([], []), ([0], [0]), ([], []), ([], []), ([], []), ([3, 4], [3, 4]), ([1, 2, 0, 1, 2, 3, 4, 5], [1, 2]), ([6, 0, 1, 2, 3, 4, 5], [6]), ([7, 5, 5, 0, 1, 2, 3, 4, 5], [5, 7])])
def spec_l03Disk.B16 : List Nat := [0, 1, 0, 0, 0, 24, 63, 127, 255]
theorem spec_l03Disk.tab16 : rtab .any (opsOf Try.f70 16) = spec_l03Disk.T16 := by kernel_rfl
theorem spec_l03Disk.bits16 : waitsOk spec_l03Disk.T16.2 spec_l03Disk.B16 = true := by kernel_rfl
def spec_l03Disk.T22 : Bool × List (List Nat × List Nat) := (true, [([], []), ([0], [0]), ([], []), ([2], [2]), ([3], [3]), ([4], [4]), ([5], [5]), ([6], [6]), ([1, 7, 4], [1, 7]), ([0, 1, 2, 3, 4, 5, 6, 7, 8], []), ([9, 8, 8, 0, 1, 2, 3, 4, 5, 6, 7, 8], [8, 9])])
def spec_l03Disk.B22 : List Nat := [0, 1, 0, 4, 12, 28, 60, 124, 255, 511, 1023]
theorem spec_l03Disk.tab22 : rtab .any (opsOf Try.f70 22) = spec_l03Disk.T22 := by kernel_rfl
theorem spec_l03Disk.bits22 : waitsOk spec_l03Disk.T22.2 spec_l03Disk.B22 = true := by kernel_rfl
def spec_l03Disk.T24 : Bool × List (List Nat × List Nat) := (true, [([], []), ([0], [0]), ([], []), ([], []), ([3], [3]), ([4], [4]), ([5, 4], [5]), ([1, 2, 0, 1, 2, 3, 4, 5, 6], [1, 2]), ([7, 0, 1, 2, 3, 4, 5, 6], [7]), ([8, 6, 6, 0, 1, 2, 3, 4, 5, 6], [6, 8])])
def spec_l03Disk.B24 : List Nat := [0, 1, 0, 0, 8, 24, 56, 127, 255, 511]
theorem spec_l03Disk.tab24 : rtab .any (opsOf Try.f70 24) = spec_l03Disk.T24 := by kernel_rfl
theorem spec_l03Disk.bits24 : waitsOk spec_l03Disk.T24.2 spec_l03Disk.B24 = true := by kernel_rfl
abbrev q15_0 := #[o_,o_,o_,o_,o_,o_,o_,o_,o_,o_,o_,o_]
abbrev q15_1 := #[o_,i_,o_,o_,o_,o_,o_,o_,o_,o_,o_,o_]
abbrev q15_2 := #[o_,i_,o_,i_,o_,o_,o_,o_,o_,o_,o_,o_]
abbrev q15_3 := #[o_,i_,o_,i_,i_,o_,o_,o_,o_,o_,o_,o_]
abbrev q15_4 := #[o_,i_,o_,i_,i_,i_,o_,o_,o_,o_,o_,o_]
abbrev q15_5 := #[o_,i_,o_,i_,i_,i_,i_,o_,o_,o_,o_,o_]
abbrev q15_6 := #[o_,i_,o_,i_,i_,i_,i_,i_,o_,o_,o_,o_]
abbrev q15_7 := #[i_,i_,o_,i_,i_,i_,i_,i_,o_,o_,o_,o_]
abbrev q15_8 := #[i_,i_,i_,i_,i_,i_,i_,i_,o_,o_,o_,o_]
abbrev q15_9 := #[i_,i_,i_,i_,i_,i_,i_,i_,i_,o_,o_,o_]
abbrev q15_10 := #[i_,i_,i_,i_,i_,i_,i_,i_,i_,i_,o_,o_]
abbrev q15_11 := #[i_,i_,i_,i_,i_,i_,i_,i_,i_,i_,i_,o_]
abbrev q15_12 := #[i_,i_,i_,i_,i_,i_,i_,i_,i_,i_,i_,i_]
abbrev q15_13 := #[o_,o_,o_,o_,o_,o_,o_,o_,o_,o_,o_,o_,o_,o_,o_,o_,o_]
abbrev q15_14 := #[i_,o_,o_,o_,o_,o_,o_,o_,o_,o_,o_,o_,o_,o_,o_,o_,o_]
abbrev q15_15 := #[i_,o_,i_,o_,o_,o_,o_,o_,o_,o_,o_,o_,o_,o_,o_,o_,o_]
abbrev q15_16 := #[i_,o_,i_,i_,o_,o_,o_,o_,o_,o_,o_,o_,o_,o_,o_,o_,o_]
abbrev q15_17 := #[i_,o_,i_,i_,i_,o_,o_,o_,o_,o_,o_,o_,o_,o_,o_,o_,o_]
abbrev q15_18 := #[i_,o_,i_,i_,i_,o_,i_,o_,o_,o_,o_,o_,o_,o_,o_,o_,o_]
abbrev q15_19 := #[i_,i_,i_,i_,i_,o_,i_,o_,o_,o_,o_,o_,o_,o_,o_,o_,o_]
abbrev q15_20 := #[i_,i_,i_,i_,i_,i_,i_,o_,o_,o_,o_,o_,o_,o_,o_,o_,o_]
abbrev q15_21 := #[i_,i_,i_,i_,i_,i_,i_,i_,o_,o_,o_,o_,o_,o_,o_,o_,o_]
abbrev q15_22 := #[i_,i_,i_,i_,i_,i_,i_,i_,i_,o_,o_,o_,o_,o_,o_,o_,o_]
abbrev q15_23 := #[i_,i_,i_,i_,i_,i_,i_,i_,i_,i_,o_,o_,o_,o_,o_,o_,o_]
abbrev q15_24 := #[i_,i_,i_,i_,i_,i_,i_,i_,i_,i_,i_,o_,o_,o_,o_,o_,o_]
abbrev q15_25 := #[i_,i_,i_,i_,i_,i_,i_,i_,i_,i_,i_,i_,o_,o_,o_,o_,o_]
abbrev q15_26 := #[i_,i_,i_,i_,i_,i_,i_,i_,i_,i_,i_,i_,i_,o_,o_,o_,o_]
abbrev q15_27 := #[i_,i_,i_,i_,i_,i_,i_,i_,i_,i_,i_,i_,i_,i_,o_,o_,o_]
abbrev q15_28 := #[i_,i_,i_,i_,i_,i_,i_,i_,i_,i_,i_,i_,i_,i_,i_,o_,o_]
abbrev q15_29 := #[i_,i_,i_,i_,i_,i_,i_,i_,i_,i_,i_,i_,i_,i_,i_,i_,o_]
abbrev q15_30 := #[i_,i_,i_,i_,i_,i_,i_,i_,i_,i_,i_,i_,i_,i_,i_,i_,i_]
abbrev q15_31 := #[o_,o_,o_,o_,o_,o_,o_,o_,o_,o_,o_]
abbrev q15_32 := #[i_,o_,o_,o_,o_,o_,o_,o_,o_,o_,o_]
abbrev q15_33 := #[i_,o_,i_,o_,o_,o_,o_,o_,o_,o_,o_]
abbrev q15_34 := #[i_,o_,i_,o_,i_,o_,o_,o_,o_,o_,o_]
abbrev q15_35 := #[i_,i_,i_,o_,i_,o_,o_,o_,o_,o_,o_]
abbrev q15_36 := #[i_,i_,i_,i_,i_,o_,o_,o_,o_,o_,o_]
abbrev q15_37 := #[i_,i_,i_,i_,i_,i_,o_,o_,o_,o_,o_]
abbrev q15_38 := #[i_,i_,i_,i_,i_,i_,i_,o_,o_,o_,o_]
abbrev q15_39 := #[i_,i_,i_,i_,i_,i_,i_,i_,o_,o_,o_]
abbrev q15_40 := #[i_,i_,i_,i_,i_,i_,i_,i_,i_,o_,o_]
abbrev q15_41 := #[i_,i_,i_,i_,i_,i_,i_,i_,i_,i_,o_]
abbrev q15_42 := #[i_,i_,i_,i_,i_,i_,i_,i_,i_,i_,i_]
abbrev q15_43 := #[o_,o_,o_,o_,o_,o_,o_,o_,o_]
abbrev q15_44 := #[i_,o_,o_,o_,o_,o_,o_,o_,o_]
abbrev q15_45 := #[i_,o_,i_,o_,o_,o_,o_,o_,o_]
abbrev q15_46 := #[i_,o_,i_,i_,o_,o_,o_,o_,o_]
abbrev q15_47 := #[i_,i_,i_,i_,o_,o_,o_,o_,o_]
abbrev q15_48 := #[i_,i_,i_,i_,i_,o_,o_,o_,o_]
abbrev q15_49 := #[i_,i_,i_,i_,i_,i_,o_,o_,o_]
abbrev q15_50 := #[i_,i_,i_,i_,i_,i_,i_,o_,o_]
abbrev q15_51 := #[i_,i_,i_,i_,i_,i_,i_,i_,o_]
abbrev q15_52 := #[i_,i_,i_,i_,i_,i_,i_,i_,i_]
abbrev q15_53 := #[i_,o_,i_,i_,o_,o_,o_,o_,o_,o_,o_]
abbrev q15_54 := #[i_,i_,i_,i_,o_,o_,o_,o_,o_,o_,o_]
abbrev q15_55 := #[o_,o_,o_,o_,o_,o_,o_,o_,o_,o_]
abbrev q15_56 := #[i_,o_,o_,o_,o_,o_,o_,o_,o_,o_]
abbrev q15_57 := #[i_,o_,i_,o_,o_,o_,o_,o_,o_,o_]
abbrev q15_58 := #[i_,o_,i_,i_,o_,o_,o_,o_,o_,o_]
abbrev q15_59 := #[i_,i_,i_,i_,o_,o_,o_,o_,o_,o_]
abbrev q15_60 := #[i_,i_,i_,i_,i_,o_,o_,o_,o_,o_]
abbrev q15_61 := #[i_,i_,i_,i_,i_,i_,o_,o_,o_,o_]
abbrev q15_62 := #[i_,i_,i_,i_,i_,i_,i_,o_,o_,o_]
abbrev q15_63 := #[i_,i_,i_,i_,i_,i_,i_,i_,o_,o_]
abbrev q15_64 := #[i_,i_,i_,i_,i_,i_,i_,i_,i_,o_]
abbrev q15_65 := #[i_,i_,i_,i_,i_,i_,i_,i_,i_,i_]
set_option maxHeartbeats 8000000 in
set_option maxRecDepth 100000 in
theorem spec_l03Disk.calls (k : Nat) (g : Nat) (s0_0 : List Int) (s0_1 : Int) (s0_2 : Int) (r1 : List (S45)) (r2 : Int) (r3 : Int) (w0 w : World) (hI : IsS100 w0 w g s0_0 s0_1 s0_2) (hB : Below w0.heap.size w0 w) (h : spec_l03Disk.f k s0_0 s0_1 s0_2 = some (r1, r2, r3)) :
  Calls Try.prog 70 #[.pointer (some ⟨g, 0, none⟩)] w fun e w' => ∃ v0_ : Value, e = .returned (.agg #[v0_]) ∧ Kd.R k45 45 w' w.heap.size (fun _ => True) v0_ r1 ∧ IsS100 w0 w' g s0_0 r2 r3 ∧ Below w0.heap.size w0 w' ∧ KeepBut w w' g none := by
 have hu29 := Try.underlying29
 have hu45 := Try.underlying45
 have HI0 := Aside0.mk hI
 have HK := Aside0.mk (KeepBut.refl w g none)
 have HL := Aside0.mk hB.size
 clear hI
 have HW0 := Aside0.mk hB.size
 have HB := Aside0.mk hB
 clear hB
 have H : (spec_l03Disk.l0 k 0 s0_0 s0_1 s0_2 ([] : List (S45))) = some (r1, r2, r3) := h
 clear h
 have H' := Aside0.mk H
 clear H
 go_enter Try.func70, Try.ntmps70
 go_wp2_with (first | ((with_reducible refine gate_dst (N := 2) rfl ?_); refine zx (N := 2) (cs := #[.slice none 0 0]) (t := 29) ?_; intro Ah hg w2 hbox hb; replace HB := ys HB hb; have Ad := Aside0.mk (hbox); have Bc := Aside0.mk ((by rw [hg]; exact (zKs HK) : w.heap.size ≤ Ah)); have Dh := Aside0.mk ((Nat.le_trans HW0.out (by rw [hg]; exact (zKs HK) : w.heap.size ≤ Ah) : w0.heap.size ≤ Ah)); replace HK := zKt HK (KeepBut.of_below hb g none); have Al := Aside0.mk ((by rw [hg]; exact Nat.ne_of_lt (IsS100.lt (show IsS100 w0 _ g s0_0 s0_1 s0_2 from yI HI0)) : g ≠ Ah)); have Ag := Aside0.mk ((by rw [hg]; exact Nat.ne_of_gt (IsS100.lt (show IsS100 w0 _ g s0_0 s0_1 s0_2 from yI HI0)) : Ah ≠ g)); replace HI0 := Aside0.mk (IsS100.below (yI HI0) hb); clear hb hbox hg) | ((with_reducible refine gate_dst (N := 3) rfl ?_); refine zx (N := 3) (cs := #[.slice none 0 0]) (t := 29) ?_; intro Ai hg w3 hbox hb; replace HB := ys HB hb; have Ac := Aside0.mk (hbox); have Bb := Aside0.mk ((by rw [hg]; exact (zKs HK) : w.heap.size ≤ Ai)); have Dg := Aside0.mk ((Nat.le_trans HW0.out (by rw [hg]; exact (zKs HK) : w.heap.size ≤ Ai) : w0.heap.size ≤ Ai)); replace HK := zKt HK (KeepBut.of_below hb g none); have Ar := zl Ad hg; have Aq := zr Ad hg; replace Ad := zb Ad hb; have Ak := Aside0.mk ((by rw [hg]; exact Nat.ne_of_lt (IsS100.lt (show IsS100 w0 _ g s0_0 s0_1 s0_2 from yF HI0)) : g ≠ Ai)); have Af := Aside0.mk ((by rw [hg]; exact Nat.ne_of_gt (IsS100.lt (show IsS100 w0 _ g s0_0 s0_1 s0_2 from yF HI0)) : Ai ≠ g)); replace HI0 := Aside0.mk (IsS100.below (yF HI0) hb); clear hb hbox hg; have hnb4 := Aq.out; have hnc4 := Ar.out; have hnb5 := Af.out; have hnc5 := Ak.out; obtain ⟨Ih, Ig⟩ := zc1 Ac))
 go_loopg [4] k (fun kq v4 w' => ∃ (B1 : Int) (Ap : Int) (Ao : Int) (Aa : List (S45)) (Aj : Value), v4 = .int .i64 B1 ∧ Aside0 (spec_l03Disk.l0 kq B1 s0_0 Ap Ao Aa = some (r1, r2, r3)) ∧ Aside0 (kq ≤ k) ∧ Aside0 (Kd.R k45 45 w' w.heap.size (fun _ => True) Aj Aa) ∧ Aside0 (w'.heap[Ah]? = some (.cells #[(.slice none 0 0)] 29 (0, 0))) ∧ Aside0 (w'.heap[Ai]? = some (.cells #[Aj] 29 (0, 0))) ∧ Aside0 (IsS100 w0 w' g s0_0 Ap Ao) ∧ Aside0 (KeepBut w w' g none) ∧ Aside0 (Below w0.heap.size w0 w'))
 case atStart => exact ⟨(0), (s0_1), (s0_2), (([] : List (S45))), (.slice none 0 0), zf, H', ⟨Nat.le_refl _⟩, ⟨by first | exact Kd.R_nil _ _ _ _ _ | exact Kd.N_nil _ _ _ _ _ | exact Kd.V_nil _ _ _ _ _ | exact Kd.Q_nil _ _ _ _ _ | exact Kd.S_nil _ _ _ _ _⟩, ⟨zkf Ad⟩, ⟨zj Ac⟩, ⟨by repeat (first | (with_reducible first | exact HI0.out | apply IsS100.alloc | apply IsS100.drewN | apply IsS100.drew | apply IsS100.set_1 | apply IsS100.set_2 | refine IsS100.far ?_ Al.out _ | refine IsS100.far ?_ Ak.out _) | exact HI0.out)⟩, ⟨by repeat (first | (with_reducible first | exact HK.out | apply KeepBut.set_ | apply keep_drewN | apply keep_drew | apply keep_alloc | refine keep_far ?_ Bc.out _ | refine keep_far ?_ Bb.out _) | exact HK.out)⟩, ⟨yw HB⟩⟩
 case round =>
  clear H'
  try clear p2
  try clear c4
  try clear c5
  try clear Ih Ig
  obtain ⟨B1, Ap, Ao, Aa, Aj, rfl, HA, Ia, Ab, Ad, Ac, HI0, HK, HB⟩ := hrel
  cases gk with
  | zero => exact absurd HA.out (by simp [spec_l03Disk.l0])
  | succ k1 =>
   have H := HA.out
   clear HA
   simp only [spec_l03Disk.l0] at H
   replace H := Option.bind_eq_some_iff.mp H
   obtain ⟨⟨Cb, Ba, Az⟩, Iv, H⟩ := H
   replace H : (if B1 < Cb then ((spec_l01Below.f s0_0 Ba Az 9).bind fun Df => ((spec_l01Text.f k1 s0_0 Df.2.1 Df.2.2 Df.1).bind fun Bp => ((spec_l03Named.f s0_0 Bp.2.1 Bp.2.2).bind fun Bm => ((spec_l01Below.f s0_0 Bm.2.1 Bm.2.2 (wrap64 ((Bp.1.size : Int) + 1))).bind fun Bf => ((spec_l03Put.f k1 Aa Bm.1 Bp.1 Bf.1).bind fun Bo => (spec_l03Disk.l0 k1 (wrap64 (B1 + 1)) s0_0 Bf.2.1 Bf.2.2 Bo)))))) else (if (Aa.length : Int) = 0 then (some (Aa, Ba, Az)) else ((spec_l01Below.f s0_0 Ba Az (Aa.length : Int)).bind fun Aw => ((spec_l01Below.f s0_0 Aw.2.1 Aw.2.2 40).bind fun Am => (if Am.1 = 0 then (if 0 ≤ Aw.1 then (if Aw.1 < (Aa.length : Int) then ((spec_l01PickInt.f s0_0 Am.2.1 Am.2.2 (([(-1), wrap64 ((((rd_T45 Aa Aw.1).f1).size : Int) + 1)] : List Int))).bind fun Be => (some ((Aa.set (Aw.1 : Int).toNat (⟨(rd_T45 Aa Aw.1).f0, (rd_T45 Aa Aw.1).f1, Be.1⟩ : S45)), Be.2.1, Be.2.2))) else (none)) else (none)) else (if Am.1 = 1 then (if 0 ≤ Aw.1 then (if Aw.1 < (Aa.length : Int) then (if Aa.length < 3518437208883 then (some ((Aa ++ [(⟨(rd_T45 Aa Aw.1).f0, (rd_T45 Aa Aw.1).f1, (rd_T45 Aa Aw.1).f2⟩ : S45)]), Am.2.1, Am.2.2)) else (none)) else (none)) else (none)) else (if Am.1 = 2 then ((spec_l01Pick.f s0_0 Am.2.1 Am.2.2 (([(⟨#[]⟩ : ByteArray), (⟨#[49, 50, 51, 52, 53, 54, 55, 56]⟩ : ByteArray), (⟨#[49, 50, 51, 52, 53, 54, 55, 56, 57]⟩ : ByteArray)] : List ByteArray))).bind fun Bd => (if 0 ≤ Aw.1 then (if Aw.1 < (Aa.length : Int) then (some ((Aa.set (Aw.1 : Int).toNat (⟨Bd.1, (rd_T45 Aa Aw.1).f1, (rd_T45 Aa Aw.1).f2⟩ : S45)), Bd.2.1, Bd.2.2)) else (none)) else (none))) else (if Am.1 = 3 then (spec_l03Disk.l1 k1 0 s0_0 Am.2.1 Am.2.2 (([] : List (S45)))) else (if Am.1 = 4 then ((spec_l01Below.f s0_0 Am.2.1 Am.2.2 3).bind fun Bl => ((spec_l01Long.f k1 (wrap64 (19999 + Bl.1)) 65).bind fun Bn => (if 0 ≤ Aw.1 then (if Aw.1 < (Aa.length : Int) then (some ((Aa.set (Aw.1 : Int).toNat (⟨(rd_T45 Aa Aw.1).f0, Bn, (rd_T45 Aa Aw.1).f2⟩ : S45)), Bl.2.1, Bl.2.2)) else (none)) else (none)))) else (some (Aa, Am.2.1, Am.2.2))))))))))) = some (r1, r2, r3) := H
   have A7 := Aside0.mk Iv
   clear Iv
   by_cases c8 : B1 < Cb
   ·rw [if_pos c8] at H
    have Ip := decide_eq_true c8
    clear c8
    replace H := Option.bind_eq_some_iff.mp H
    obtain ⟨⟨D0, Dz, Dy⟩, Iu, H⟩ := H
    replace H : ((spec_l01Text.f k1 s0_0 Dz Dy D0).bind fun Bp => ((spec_l03Named.f s0_0 Bp.2.1 Bp.2.2).bind fun Bm => ((spec_l01Below.f s0_0 Bm.2.1 Bm.2.2 (wrap64 ((Bp.1.size : Int) + 1))).bind fun Bf => ((spec_l03Put.f k1 Aa Bm.1 Bp.1 Bf.1).bind fun Bo => (spec_l03Disk.l0 k1 (wrap64 (B1 + 1)) s0_0 Bf.2.1 Bf.2.2 Bo))))) = some (r1, r2, r3) := H
    have A9 := Aside0.mk Iu
    clear Iu
    replace H := Option.bind_eq_some_iff.mp H
    obtain ⟨⟨Ca, Dx, Dw⟩, H9, H⟩ := H
    replace H : ((spec_l03Named.f s0_0 Dx Dw).bind fun Bm => ((spec_l01Below.f s0_0 Bm.2.1 Bm.2.2 (wrap64 ((Ca.size : Int) + 1))).bind fun Bf => ((spec_l03Put.f k1 Aa Bm.1 Ca Bf.1).bind fun Bo => (spec_l03Disk.l0 k1 (wrap64 (B1 + 1)) s0_0 Bf.2.1 Bf.2.2 Bo)))) = some (r1, r2, r3) := H
    have I9 := Aside0.mk H9
    clear H9
    replace H := Option.bind_eq_some_iff.mp H
    obtain ⟨⟨C0, Dv, Du⟩, D7, H⟩ := H
    replace H : ((spec_l01Below.f s0_0 Dv Du (wrap64 ((Ca.size : Int) + 1))).bind fun Bf => ((spec_l03Put.f k1 Aa C0 Ca Bf.1).bind fun Bo => (spec_l03Disk.l0 k1 (wrap64 (B1 + 1)) s0_0 Bf.2.1 Bf.2.2 Bo))) = some (r1, r2, r3) := H
    have I8 := Aside0.mk D7
    clear D7
    replace H := Option.bind_eq_some_iff.mp H
    obtain ⟨⟨Dt, Fe, Fd⟩, H7, H⟩ := H
    replace H : ((spec_l03Put.f k1 Aa C0 Ca Dt).bind fun Bo => (spec_l03Disk.l0 k1 (wrap64 (B1 + 1)) s0_0 Fe Fd Bo)) = some (r1, r2, r3) := H
    have I7 := Aside0.mk H7
    clear H7
    replace H := Option.bind_eq_some_iff.mp H
    obtain ⟨Bo, H6, H⟩ := H
    have I6 := Aside0.mk H6
    clear H6
    have H' := Aside0.mk H
    clear H
    try go_wp2_with (first | ((with_reducible refine gate_callee (f := 56) rfl ?_); refine zG (some 11) Try.func56 #[.pointer (some ⟨g, 0, none⟩), .int .i64 6] ?_; (with_reducible refine (spec_l01Below.calls g s0_0 Ap Ao 6 Cb Ba Az w0 _ ?side1 ?side2 A7.out).mono ?_); (case side1 => exact yF HI0); (case side2 => exact yw HB); rintro e w14 ⟨rfl, hi, hb, hk⟩; refine ⟨_, rfl, ?_⟩; replace Ab := Aside0.mk (Kd.R_mono (Kd.R_keep (IsS100.apart (show IsS100 w0 _ g s0_0 Ap Ao from yF HI0) (zo Ab.out) (by decide)) hk (fun _ h => h.2)) (fun _ h => h.1)); replace Ad := Aside0.mk (KeepBut.blk hk (g' := Ah) (o := .cells #[.slice none 0 0] 29 (0, 0)) (zk Ad) Ag.out (by simp)); replace Ac := Aside0.mk (KeepBut.blk hk (g' := Ai) (o := .cells #[Aj] 29 (0, 0)) (zk Ac) Af.out (by simp)); replace HK := zKt HK hk; replace HB := Aside0.mk (hb); replace HI0 := Aside0.mk (hi); clear hi hb hk) | ((with_reducible refine gate_callee (f := 56) rfl ?_); refine zG (some 17) Try.func56 #[.pointer (some ⟨g, 0, none⟩), .int .i64 9] ?_; (with_reducible refine (spec_l01Below.calls g s0_0 Ba Az 9 D0 Dz Dy w0 _ ?side1 ?side2 A9.out).mono ?_); (case side1 => exact yF HI0); (case side2 => exact yw HB); rintro e w15 ⟨rfl, hi, hb, hk⟩; refine ⟨_, rfl, ?_⟩; replace Ab := Aside0.mk (Kd.R_mono (Kd.R_keep (IsS100.apart (show IsS100 w0 _ g s0_0 Ba Az from yF HI0) (zo Ab.out) (by decide)) hk (fun _ h => h.2)) (fun _ h => h.1)); replace Ad := Aside0.mk (KeepBut.blk hk (g' := Ah) (o := .cells #[.slice none 0 0] 29 (0, 0)) (zk Ad) Ag.out (by simp)); replace Ac := Aside0.mk (KeepBut.blk hk (g' := Ai) (o := .cells #[Aj] 29 (0, 0)) (zk Ac) Af.out (by simp)); replace HK := zKt HK hk; replace HB := Aside0.mk (hb); replace HI0 := Aside0.mk (hi); clear hi hb hk) | ((with_reducible refine gate_callee (f := 57) rfl ?_); refine zG (some 18) Try.func57 #[.pointer (some ⟨g, 0, none⟩), .int .i64 D0] ?_; (with_reducible refine (spec_l01Text.calls k1 g s0_0 Dz Dy D0 Ca Dx Dw w0 _ ?side1 ?side2 I9.out).mono ?_); (case side1 => exact yF HI0); (case side2 => exact yw HB); rintro e I3 ⟨rfl, hi, hb, hk⟩; refine ⟨_, rfl, ?_⟩; replace Ab := Aside0.mk (Kd.R_mono (Kd.R_keep (IsS100.apart (show IsS100 w0 _ g s0_0 Dz Dy from yF HI0) (zo Ab.out) (by decide)) hk (fun _ h => h.2)) (fun _ h => h.1)); replace Ad := Aside0.mk (KeepBut.blk hk (g' := Ah) (o := .cells #[.slice none 0 0] 29 (0, 0)) (zk Ad) Ag.out (by simp)); replace Ac := Aside0.mk (KeepBut.blk hk (g' := Ai) (o := .cells #[Aj] 29 (0, 0)) (zk Ac) Af.out (by simp)); replace HK := zKt HK hk; replace HB := Aside0.mk (hb); replace HI0 := Aside0.mk (hi); clear hi hb hk))
    replace Ab := zd3 Ab
    replace Ad := zd1 Ad
    replace Ac := zd1 Ac
    replace HI0 := Aside0.mk (IsS100.drew HI0.out)
    replace HK := Aside0.mk (keep_drew HK.out)
    replace HB := zd2 HB
    refine start_ (n := 12) (S := fun w' => w'.cell? ⟨Ai, 0, none⟩ = some (Aj)) (ds := [11]) q15_0 (by kernel_rfl) rfl rfl (zv Ac) (fun hHeld => ?_); refine with_tabW spec_l03Disk.tab6 spec_l03Disk.bits6 (fun HT_ HW_ => ?_)
    generalize I3.drew = w17 at Ab Ad Ac HI0 HK HB hHeld ⊢
    refine zP 1 (some 20) q15_1 HT_ ?_
    refine zP 3 (some 22) q15_2 HT_ ?_
    refine zP 4 (some 23) q15_3 HT_ ?_
    refine zP 5 (some 24) q15_4 HT_ ?_
    refine zP 6 (some 25) q15_5 HT_ ?_
    refine zP 7 (some 26) q15_6 HT_ ?_
    refine zT 0 (some 19) q15_7 HT_ HW_ hHeld ?_
    refine one_ (i := 2) (N := some 21) q15_8 rfl rfl (one_of HT_.out (by kernel_rfl)) (by decide) (fun K hK => ?_)
    refine zH Try.func59 #[.pointer (some ⟨g, 0, none⟩)] ?_
    with_reducible refine (spec_l03Named.calls g s0_0 Dx Dw C0 Dv Du w0 _ ?side1 ?side2 I8.out).mono ?_
    (case side1 => exact yF HI0)
    (case side2 => exact yw HB)
    rintro e w18 ⟨rfl, hi, hb, hk⟩
    refine ⟨_, rfl, ?_⟩
    replace Ab := Aside0.mk (Kd.R_mono (Kd.R_keep (IsS100.apart (show IsS100 w0 _ g s0_0 Dx Dw from yF HI0) (zo Ab.out) (by decide)) hk (fun _ h => h.2)) (fun _ h => h.1))
    replace Ad := Aside0.mk (KeepBut.blk hk (g' := Ah) (o := .cells #[.slice none 0 0] 29 (0, 0)) (zk Ad) Ag.out (by simp))
    replace Ac := Aside0.mk (KeepBut.blk hk (g' := Ai) (o := .cells #[Aj] 29 (0, 0)) (zk Ac) Af.out (by simp))
    replace HK := zKt HK hk
    replace HB := Aside0.mk (hb)
    replace HI0 := Aside0.mk (hi)
    (try clear hb)
    (try clear hb2)
    (try clear hk)
    (try clear hi)
    refine hK.out _ _ (zv Ac) (fun hHeld => ?_)
    clear hK K
    refine zN ?_
    refine one_ (i := 8) (N := some 27) q15_9 rfl rfl (one_of HT_.out (by kernel_rfl)) (by decide) (fun K hK => ?_)
    refine zH Try.func56 #[.pointer (some ⟨g, 0, none⟩), .int .i64 (wrap64 ((Ca.size : Int) + 1))] ?_
    with_reducible refine (spec_l01Below.calls g s0_0 Dv Du (wrap64 ((Ca.size : Int) + 1)) Dt Fe Fd w0 _ ?side1 ?side2 I7.out).mono ?_
    (case side1 => exact yF HI0)
    (case side2 => exact yw HB)
    rintro e w19 ⟨rfl, hi, hb, hk⟩
    refine ⟨_, rfl, ?_⟩
    replace Ab := Aside0.mk (Kd.R_mono (Kd.R_keep (IsS100.apart (show IsS100 w0 _ g s0_0 Dv Du from yF HI0) (zo Ab.out) (by decide)) hk (fun _ h => h.2)) (fun _ h => h.1))
    replace Ad := Aside0.mk (KeepBut.blk hk (g' := Ah) (o := .cells #[.slice none 0 0] 29 (0, 0)) (zk Ad) Ag.out (by simp))
    replace Ac := Aside0.mk (KeepBut.blk hk (g' := Ai) (o := .cells #[Aj] 29 (0, 0)) (zk Ac) Af.out (by simp))
    replace HK := zKt HK hk
    replace HB := Aside0.mk (hb)
    replace HI0 := Aside0.mk (hi)
    (try clear hb)
    (try clear hb2)
    (try clear hk)
    (try clear hi)
    obtain ⟨H0, Hg, G6⟩ := Kd.R_slice Ab.out
    (first | subst G6 | (injection G6 with f1_ f2_ f3_; have f4_ := f1_.symm; have f5_ := f3_.symm; clear f1_ f2_ f3_; subst f4_; subst f5_))
    refine hK.out _ _ (zv Ac) (fun hHeld => ?_)
    clear hK K
    refine zN ?_
    refine zP 9 (some 28) q15_10 HT_ ?_
    refine one_ (i := 10) (N := some 29) q15_11 rfl rfl (one_of HT_.out (by kernel_rfl)) (by decide) (fun K hK => ?_)
    refine zH Try.func58 #[.agg #[.slice H0 Aa.length Hg], .agg #[.string C0, .string Ca, .int .i64 Dt]] ?_
    with_reducible refine (spec_l03Put.calls k1 _ _ Aa C0 Ca Dt Bo _ ?side1 ?side2 I6.out).mono ?_
    (case side1 => exact zI (Kd.R_reads' Ab.out).2.2)
    (case side2 => exact (Kd.R_reads' Ab.out).2.1)
    rintro e I2 ⟨v322, rfl, Ii, hb⟩
    refine ⟨_, rfl, ?_⟩
    have E2 := Aside0.mk (Kd.R_lower (Kd.R_new' Ii (Kd.R_lt (zo Ab.out))) (zKs HK))
    replace Ab := Aside0.mk (Kd.R_elder' (zo Ab.out) (Kd.R_base Ii) hb)
    replace Ad := zb Ad hb
    replace Ac := zb Ac hb
    replace HK := zKt HK (KeepBut.of_below hb g none)
    replace HB := ys HB hb
    replace HI0 := Aside0.mk (IsS100.below (yF HI0) hb)
    (try clear hb)
    (try clear hb2)
    (try clear hk)
    (try clear hi)
    (try clear Ii)
    obtain ⟨Hz, Hf, G5⟩ := Kd.R_slice E2.out
    (first | subst G5 | (injection G5 with f1_ f2_ f3_; have f4_ := f1_.symm; have f5_ := f3_.symm; clear f1_ f2_ f3_; subst f4_; subst f5_))
    refine hK.out _ _ (zv Ac) (fun hHeld => ?_)
    clear hK K
    refine zN ?_
    refine last_ (i := 11) (N := none) q15_12 rfl rfl (one_of HT_.out (by kernel_rfl)) (by decide) (fun K hK => ?_)
    have hs23 : I2.cell? ⟨Ai, 0, none⟩ = some (.slice H0 Aa.length Hg) := zv Ac
    have hfs23 := blk_frozen Ac.out 0
    have hns23_0 := Ar.out
    have hms23_0 := Aq.out
    refine skip_ (w1 := ?_) (by rfl) rfl ?_ ?_
    rotate_left
    ·go_simp
     rfl
    refine hK.out _ _ ?_
    clear hK K
    refine done_ (done_of HT_.out (by kernel_rfl)) ?_
    try go_wp2
    go_roundg k1
    case measure => have := Ia.out; omega
    case rel => exact ⟨(wrap64 (B1 + 1)), (Fe), (Fd), (Bo), (.slice Hz Bo.length Hf), zf, H', ⟨by have := Ia.out; omega⟩, ⟨zo (Kd.R_mono (Kd.R_far (p := ⟨Ai, 0, none⟩) (Kd.R_types E2.out Ac.out (by decide)) (fun _ hk => hk.2) (.slice Hz Bo.length Hf)) (fun _ hk => trivial))⟩, ⟨zkf Ad⟩, ⟨zj Ac⟩, ⟨by repeat (first | (with_reducible first | exact HI0.out | apply IsS100.alloc | apply IsS100.drewN | apply IsS100.drew | apply IsS100.set_1 | apply IsS100.set_2 | refine IsS100.far ?_ Al.out _ | refine IsS100.far ?_ Ak.out _) | exact HI0.out)⟩, ⟨by repeat (first | (with_reducible first | exact HK.out | apply KeepBut.set_ | apply keep_drewN | apply keep_drew | apply keep_alloc | refine keep_far ?_ Bc.out _ | refine keep_far ?_ Bb.out _) | exact HK.out)⟩, ⟨yw HB⟩⟩
   rw [if_neg c8] at H
   have Ip := decide_eq_false c8
   clear c8
   by_cases Ey : (Aa.length : Int) = 0
   ·rw [if_pos Ey] at H
    have Ht : ((Aa.length : Int) == 0) = true := beq_iff_eq.mpr Ey
    have Hs : ((Aa.length : Int) != 0) = false := bne_eq_false_iff_eq.mpr Ey
    clear Ey
    simp only [Option.some.injEq, Prod.mk.injEq] at H
    obtain ⟨rfl, rfl, rfl⟩ := H
    go_wp2_with (first | ((with_reducible refine gate_callee (f := 56) rfl ?_); refine zG (some 11) Try.func56 #[.pointer (some ⟨g, 0, none⟩), .int .i64 6] ?_; (with_reducible refine (spec_l01Below.calls g s0_0 Ap Ao 6 Cb Ba Az w0 _ ?side1 ?side2 A7.out).mono ?_); (case side1 => exact yF HI0); (case side2 => exact yw HB); rintro e w25 ⟨rfl, hi, hb, hk⟩; refine ⟨_, rfl, ?_⟩; replace Ab := Aside0.mk (Kd.R_mono (Kd.R_keep (IsS100.apart (show IsS100 w0 _ g s0_0 Ap Ao from yF HI0) (zo Ab.out) (by decide)) hk (fun _ h => h.2)) (fun _ h => h.1)); replace Ad := Aside0.mk (KeepBut.blk hk (g' := Ah) (o := .cells #[.slice none 0 0] 29 (0, 0)) (zk Ad) Ag.out (by simp)); replace Ac := Aside0.mk (KeepBut.blk hk (g' := Ai) (o := .cells #[Aj] 29 (0, 0)) (zk Ac) Af.out (by simp)); replace HK := zKt HK hk; replace HB := Aside0.mk (hb); replace HI0 := Aside0.mk (hi); clear hi hb hk; have hnb26 := Aq.out; have hnc26 := Ar.out; have hnb27 := Af.out; have hnc27 := Ak.out; obtain ⟨_, _⟩ := zc1 Ac; obtain ⟨Hy, He, Im⟩ := Kd.R_slice Ab.out; subst Im; have hnb30 := Ag.out; have hnc30 := Al.out; obtain ⟨_, _⟩ := zc1 Ad))
    refine bodyPost_ret (results_cell_row rfl _ _ Ah 29 #[.slice Hy Aa.length He] (0, 0) _ rfl (zj Ad) Try.underlying29 rfl (by kernel_rfl)) rfl ?_
    exact ⟨_, ze, zo (Kd.R_mono (Kd.R_far (p := ⟨Ah, 0, none⟩) (Kd.R_types Ab.out Ad.out (by decide)) (fun _ hk => hk.2) (.slice Hy Aa.length He)) (fun _ hk => trivial)), by repeat (first | (with_reducible first | exact HI0.out | apply IsS100.alloc | apply IsS100.drewN | apply IsS100.drew | apply IsS100.set_1 | apply IsS100.set_2 | refine IsS100.far ?_ Al.out _ | refine IsS100.far ?_ Ak.out _) | exact HI0.out), yw HB, by repeat (first | (with_reducible first | exact HK.out | apply KeepBut.set_ | apply keep_drewN | apply keep_drew | apply keep_alloc | refine keep_far ?_ Bc.out _ | refine keep_far ?_ Bb.out _) | exact HK.out)⟩
   rw [if_neg Ey] at H
   have Ht : ((Aa.length : Int) == 0) = false := beq_eq_false_iff_ne.mpr Ey
   have Hs : ((Aa.length : Int) != 0) = true := bne_iff_ne.mpr Ey
   have c24b2 : ¬ (Aa = []) := fun h_ => Ey (by rw [h_]; rfl)
   replace H := Option.bind_eq_some_iff.mp H
   obtain ⟨⟨Ae, Bj, Bi⟩, H5, H⟩ := H
   replace H : ((spec_l01Below.f s0_0 Bj Bi 40).bind fun Am => (if Am.1 = 0 then (if 0 ≤ Ae then (if Ae < (Aa.length : Int) then ((spec_l01PickInt.f s0_0 Am.2.1 Am.2.2 (([(-1), wrap64 ((((rd_T45 Aa Ae).f1).size : Int) + 1)] : List Int))).bind fun Be => (some ((Aa.set (Ae : Int).toNat (⟨(rd_T45 Aa Ae).f0, (rd_T45 Aa Ae).f1, Be.1⟩ : S45)), Be.2.1, Be.2.2))) else (none)) else (none)) else (if Am.1 = 1 then (if 0 ≤ Ae then (if Ae < (Aa.length : Int) then (if Aa.length < 3518437208883 then (some ((Aa ++ [(⟨(rd_T45 Aa Ae).f0, (rd_T45 Aa Ae).f1, (rd_T45 Aa Ae).f2⟩ : S45)]), Am.2.1, Am.2.2)) else (none)) else (none)) else (none)) else (if Am.1 = 2 then ((spec_l01Pick.f s0_0 Am.2.1 Am.2.2 (([(⟨#[]⟩ : ByteArray), (⟨#[49, 50, 51, 52, 53, 54, 55, 56]⟩ : ByteArray), (⟨#[49, 50, 51, 52, 53, 54, 55, 56, 57]⟩ : ByteArray)] : List ByteArray))).bind fun Bd => (if 0 ≤ Ae then (if Ae < (Aa.length : Int) then (some ((Aa.set (Ae : Int).toNat (⟨Bd.1, (rd_T45 Aa Ae).f1, (rd_T45 Aa Ae).f2⟩ : S45)), Bd.2.1, Bd.2.2)) else (none)) else (none))) else (if Am.1 = 3 then (spec_l03Disk.l1 k1 0 s0_0 Am.2.1 Am.2.2 (([] : List (S45)))) else (if Am.1 = 4 then ((spec_l01Below.f s0_0 Am.2.1 Am.2.2 3).bind fun Bl => ((spec_l01Long.f k1 (wrap64 (19999 + Bl.1)) 65).bind fun Bn => (if 0 ≤ Ae then (if Ae < (Aa.length : Int) then (some ((Aa.set (Ae : Int).toNat (⟨(rd_T45 Aa Ae).f0, Bn, (rd_T45 Aa Ae).f2⟩ : S45)), Bl.2.1, Bl.2.2)) else (none)) else (none)))) else (some (Aa, Am.2.1, Am.2.2)))))))) = some (r1, r2, r3) := H
   have F1 := Aside0.mk H5
   clear H5
   replace H := Option.bind_eq_some_iff.mp H
   obtain ⟨⟨Au, Ay, Ax⟩, H4, H⟩ := H
   replace H : (if Au = 0 then (if 0 ≤ Ae then (if Ae < (Aa.length : Int) then ((spec_l01PickInt.f s0_0 Ay Ax (([(-1), wrap64 ((((rd_T45 Aa Ae).f1).size : Int) + 1)] : List Int))).bind fun Be => (some ((Aa.set (Ae : Int).toNat (⟨(rd_T45 Aa Ae).f0, (rd_T45 Aa Ae).f1, Be.1⟩ : S45)), Be.2.1, Be.2.2))) else (none)) else (none)) else (if Au = 1 then (if 0 ≤ Ae then (if Ae < (Aa.length : Int) then (if Aa.length < 3518437208883 then (some ((Aa ++ [(⟨(rd_T45 Aa Ae).f0, (rd_T45 Aa Ae).f1, (rd_T45 Aa Ae).f2⟩ : S45)]), Ay, Ax)) else (none)) else (none)) else (none)) else (if Au = 2 then ((spec_l01Pick.f s0_0 Ay Ax (([(⟨#[]⟩ : ByteArray), (⟨#[49, 50, 51, 52, 53, 54, 55, 56]⟩ : ByteArray), (⟨#[49, 50, 51, 52, 53, 54, 55, 56, 57]⟩ : ByteArray)] : List ByteArray))).bind fun Bd => (if 0 ≤ Ae then (if Ae < (Aa.length : Int) then (some ((Aa.set (Ae : Int).toNat (⟨Bd.1, (rd_T45 Aa Ae).f1, (rd_T45 Aa Ae).f2⟩ : S45)), Bd.2.1, Bd.2.2)) else (none)) else (none))) else (if Au = 3 then (spec_l03Disk.l1 k1 0 s0_0 Ay Ax (([] : List (S45)))) else (if Au = 4 then ((spec_l01Below.f s0_0 Ay Ax 3).bind fun Bl => ((spec_l01Long.f k1 (wrap64 (19999 + Bl.1)) 65).bind fun Bn => (if 0 ≤ Ae then (if Ae < (Aa.length : Int) then (some ((Aa.set (Ae : Int).toNat (⟨(rd_T45 Aa Ae).f0, Bn, (rd_T45 Aa Ae).f2⟩ : S45)), Bl.2.1, Bl.2.2)) else (none)) else (none)))) else (some (Aa, Ay, Ax))))))) = some (r1, r2, r3) := H
   have F0 := Aside0.mk H4
   clear H4
   by_cases Ex : Au = 0
   ·rw [if_pos Ex] at H
    have Ew : (Au == 0) = true := beq_iff_eq.mpr Ex
    have Eu : (Au != 0) = false := bne_eq_false_iff_eq.mpr Ex
    clear Ex
    by_cases Hr : 0 ≤ Ae
    ·rw [if_pos Hr] at H
     have c35b0 := decide_eq_true Hr
     clear Hr
     by_cases Hq : Ae < (Aa.length : Int)
     ·rw [if_pos Hq] at H
      have c36b0 := decide_eq_true Hq
      clear Hq
      obtain ⟨Cz, C8⟩ : ∃ y_ : List Int, y_ = (([(-1), wrap64 ((((rd_T45 Aa Ae).f1).size : Int) + 1)] : List Int)) := ⟨_, rfl⟩
      replace H : ((spec_l01PickInt.f s0_0 Ay Ax Cz).bind fun Be => (some ((Aa.set (Ae : Int).toNat (⟨(rd_T45 Aa Ae).f0, (rd_T45 Aa Ae).f1, Be.1⟩ : S45)), Be.2.1, Be.2.2))) = some (r1, r2, r3) := zrw C8 H
      have Ny331 := Aside0.mk C8
      clear C8
      replace H := Option.bind_eq_some_iff.mp H
      obtain ⟨⟨Cj, Ds, Dr⟩, H2, H⟩ := H
      replace H : (some ((Aa.set (Ae : Int).toNat (⟨(rd_T45 Aa Ae).f0, (rd_T45 Aa Ae).f1, Cj⟩ : S45)), Ds, Dr)) = some (r1, r2, r3) := H
      have I5 := Aside0.mk H2
      clear H2
      obtain ⟨F4, C7⟩ : ∃ y_ : List (S45), y_ = (Aa.set (Ae : Int).toNat (⟨(rd_T45 Aa Ae).f0, (rd_T45 Aa Ae).f1, Cj⟩ : S45)) := ⟨_, rfl⟩
      replace H : (some (F4, Ds, Dr)) = some (r1, r2, r3) := zrw C7 H
      have Ny337 := Aside0.mk C7
      clear C7
      simp only [Option.some.injEq, Prod.mk.injEq] at H
      obtain ⟨rfl, rfl, rfl⟩ := H
      try go_wp2_with (first | ((with_reducible refine gate_callee (f := 56) rfl ?_); refine zG (some 11) Try.func56 #[.pointer (some ⟨g, 0, none⟩), .int .i64 6] ?_; (with_reducible refine (spec_l01Below.calls g s0_0 Ap Ao 6 Cb Ba Az w0 _ ?side1 ?side2 A7.out).mono ?_); (case side1 => exact yF HI0); (case side2 => exact yw HB); rintro e w39 ⟨rfl, hi, hb, hk⟩; refine ⟨_, rfl, ?_⟩; replace Ab := Aside0.mk (Kd.R_mono (Kd.R_keep (IsS100.apart (show IsS100 w0 _ g s0_0 Ap Ao from yF HI0) (zo Ab.out) (by decide)) hk (fun _ h => h.2)) (fun _ h => h.1)); replace Ad := Aside0.mk (KeepBut.blk hk (g' := Ah) (o := .cells #[.slice none 0 0] 29 (0, 0)) (zk Ad) Ag.out (by simp)); replace Ac := Aside0.mk (KeepBut.blk hk (g' := Ai) (o := .cells #[Aj] 29 (0, 0)) (zk Ac) Af.out (by simp)); replace HK := zKt HK hk; replace HB := Aside0.mk (hb); replace HI0 := Aside0.mk (hi); clear hi hb hk; have hnb40 := Aq.out; have hnc40 := Ar.out; have hnb41 := Af.out; have hnc41 := Ak.out; obtain ⟨_, _⟩ := zc1 Ac; obtain ⟨Hx, Cl, Il⟩ := Kd.R_slice Ab.out; subst Il) | ((with_reducible refine gate_callee (f := 56) rfl ?_); refine zG (some 39) Try.func56 #[.pointer (some ⟨g, 0, none⟩), .int .i64 (Aa.length : Int)] ?_; (with_reducible refine (spec_l01Below.calls g s0_0 Ba Az (Aa.length : Int) Ae Bj Bi w0 _ ?side1 ?side2 F1.out).mono ?_); (case side1 => exact yF HI0); (case side2 => exact yw HB); rintro e w44 ⟨rfl, hi, hb, hk⟩; refine ⟨_, rfl, ?_⟩; replace Ab := Aside0.mk (Kd.R_mono (Kd.R_keep (IsS100.apart (show IsS100 w0 _ g s0_0 Ba Az from yF HI0) (zo Ab.out) (by decide)) hk (fun _ h => h.2)) (fun _ h => h.1)); replace Ad := Aside0.mk (KeepBut.blk hk (g' := Ah) (o := .cells #[.slice none 0 0] 29 (0, 0)) (zk Ad) Ag.out (by simp)); replace Ac := Aside0.mk (KeepBut.blk hk (g' := Ai) (o := .cells #[.slice Hx Aa.length Cl] 29 (0, 0)) (zk Ac) Af.out (by simp)); replace HK := zKt HK hk; replace HB := Aside0.mk (hb); replace HI0 := Aside0.mk (hi); clear hi hb hk) | ((with_reducible refine gate_callee (f := 56) rfl ?_); refine zG (some 41) Try.func56 #[.pointer (some ⟨g, 0, none⟩), .int .i64 40] ?_; (with_reducible refine (spec_l01Below.calls g s0_0 Bj Bi 40 Au Ay Ax w0 _ ?side1 ?side2 F0.out).mono ?_); (case side1 => exact yF HI0); (case side2 => exact yw HB); rintro e I1 ⟨rfl, hi, hb, hk⟩; refine ⟨_, rfl, ?_⟩; replace Ab := Aside0.mk (Kd.R_mono (Kd.R_keep (IsS100.apart (show IsS100 w0 _ g s0_0 Bj Bi from yF HI0) (zo Ab.out) (by decide)) hk (fun _ h => h.2)) (fun _ h => h.1)); replace Ad := Aside0.mk (KeepBut.blk hk (g' := Ah) (o := .cells #[.slice none 0 0] 29 (0, 0)) (zk Ad) Ag.out (by simp)); replace Ac := Aside0.mk (KeepBut.blk hk (g' := Ai) (o := .cells #[.slice Hx Aa.length Cl] 29 (0, 0)) (zk Ac) Af.out (by simp)); replace HK := zKt HK hk; replace HB := Aside0.mk (hb); replace HI0 := Aside0.mk (hi); clear hi hb hk))
      replace Ab := zd3 Ab
      replace Ad := zd1 Ad
      replace Ac := zd1 Ac
      replace HI0 := Aside0.mk (IsS100.drew HI0.out)
      replace HK := Aside0.mk (keep_drew HK.out)
      replace HB := zd2 HB
      have Fh : 0 ≤ (Ae : Int) := of_decide_eq_true za
      have Ff : Ae < (Aa.length : Int) := of_decide_eq_true za
      obtain ⟨B2, Io, Bz, Bx, Bw⟩ := at_T45 (Kd.R_reads' Ab.out).2.2 Ae Fh Ff
      cases Io
      replace Fh := eq_true Fh
      replace Ff := eq_true Ff
      refine start_ (n := 17) (S := fun w' => w'.cell? ⟨Ai, 0, none⟩ = some (.slice (some B2) Aa.length Cl) ∧ w'.cell? (B2.add ((Ae).toNat * 3)) = some (.string ((rd_T45 Aa Ae).f0)) ∧ w'.cell? ⟨(B2.add ((Ae).toNat * 3)).block, (B2.add ((Ae).toNat * 3)).off + 1, none⟩ = some (.string ((rd_T45 Aa Ae).f1)) ∧ w'.cell? ⟨(B2.add ((Ae).toNat * 3)).block, (B2.add ((Ae).toNat * 3)).off + 2, none⟩ = some (.int .i64 ((rd_T45 Aa Ae).f2))) (ds := [16]) q15_13 (by kernel_rfl) rfl rfl ⟨zv Ac, Bz, Bx, Bw⟩ (fun hHeld => ?_); refine with_tabW spec_l03Disk.tab12 spec_l03Disk.bits12 (fun HT_ HW_ => ?_)
      generalize I1.drew = w46 at Ab Ad Ac HI0 HK HB Bz Bx Bw hHeld ⊢
      refine zP 0 (some 44) q15_14 HT_ ?_
      refine zP 2 (some 46) q15_15 HT_ ?_
      refine zP 3 (some 47) q15_16 HT_ ?_
      refine zP 4 (some 48) q15_17 HT_ ?_
      refine zP 6 (some 50) q15_18 HT_ ?_
      refine zT 1 (some 45) q15_19 HT_ HW_ hHeld ?_
      refine zT 5 (some 49) q15_20 HT_ HW_ hHeld ?_
      refine zP 7 (some 51) q15_21 HT_ ?_
      refine zP 8 (some 52) q15_22 HT_ ?_
      refine zT 9 (some 53) q15_23 HT_ HW_ hHeld ?_
      refine zP 10 (some 54) q15_24 HT_ ?_
      refine zP 11 (some 55) q15_25 HT_ ?_
      refine one_ (i := 12) (N := some 56) q15_26 rfl rfl (one_of HT_.out (by kernel_rfl)) (by decide) (fun K hK => ?_)
      refine Kd.R_lit_step (Kd.int .i64) _ 3 ?hg (N := 56) ?hd (xs := ([(-1), wrap64 ((((rd_T45 Aa Ae).f1).size : Int) + 1)] : List Int)) (inner := [.int .i64 (-1), .int .i64 (wrap64 ((((rd_T45 Aa Ae).f1).size : Int) + 1))]) (ok := fun _ => True) (okp := fun _ => True) ?hr ?hp (fun _ hk => hk) trivial (Below.refl _ _) (Nat.le_refl _) (by simp) ?_; (case hd => rfl); (case hg => rfl); (case hr => first | (go_simp; done) | (go_simp; rfl)); (case hp => exact (Reps.one (show Kd.M (Kd.int .i64) _ _ _ (-1) [.int .i64 (-1)] from rfl) (Reps.one (show Kd.M (Kd.int .i64) _ _ _ (wrap64 ((((rd_T45 Aa Ae).f1).size : Int) + 1)) [.int .i64 (wrap64 ((((rd_T45 Aa Ae).f1).size : Int) + 1))] from rfl) (Reps.none _ _))))
      intro v332 w47 Da hb hg_ hnew_
      have HS1_ := zhs hb hHeld.2.1
      have HS2_ := zhs hb hHeld.2.2.1
      have HS3_ := zhs hb hHeld.2.2.2
      clear hg_ hnew_
      (first | rw [← Ny331.out] at Da | (simp only [Int.reduceToNat] at Da; rw [← Ny331.out] at Da))
      replace Ab := zy Ab hb
      have Bv := Aside0.mk (Kd.R_lower Da (zKs HK))
      replace Ad := zb Ad hb
      replace Ac := zb Ac hb
      replace HK := zKt HK (KeepBut.of_below hb g none)
      replace HB := ys HB hb
      replace HI0 := Aside0.mk (IsS100.below (yF HI0) hb)
      clear hb Da
      obtain ⟨Hw, Hd, G3⟩ := Kd.R_slice Bv.out
      (first | subst G3 | (injection G3 with f1_ f2_ f3_; have f4_ := f1_.symm; have f5_ := f3_.symm; clear f1_ f2_ f3_; subst f4_; subst f5_))
      refine hK.out _ _ ⟨zv Ac, HS1_, HS2_, HS3_⟩ (fun hHeld => ?_)
      clear hK K
      refine zN ?_
      refine one_ (i := 13) (N := some 57) q15_27 rfl rfl (one_of HT_.out (by kernel_rfl)) (by decide) (fun K hK => ?_)
      refine zH Try.func83 #[.pointer (some ⟨g, 0, none⟩), .slice Hw Cz.length Hd] ?_
      with_reducible refine (spec_l01PickInt.calls g s0_0 Ay Ax _ _ Cz Cj Ds Dr w0 _ ?side1 ?side2 ?side3 ?side4 ?side5 I5.out).mono ?_
      (case side1 => exact yF HI0)
      (case side2 => exact yw HB)
      (case side3 => exact zI (Kd.R_reads' Bv.out).2.2)
      (case side4 => exact (Kd.R_reads' Bv.out).2.1)
      (case side5 => exact far_slice (IsS100.own_ne HI0.out Bv.out (by decide)))
      rintro e I0 ⟨rfl, hi, hb, hk⟩
      have HS1_ := keep_cell hk (hHeld.2.1) (by first | (rw [add_block]; exact Kd.own_blk (IsS100.own_ne HI0.out Ab.out (by decide))) | (show (Addr.add _ _).block ≠ _; rw [add_block]; exact Kd.own_blk (IsS100.own_ne HI0.out Ab.out (by decide))) | exact Kd.own_blk (IsS100.own_ne HI0.out Ab.out (by decide)))
      have HS2_ := keep_cell hk (hHeld.2.2.1) (by first | (rw [add_block]; exact Kd.own_blk (IsS100.own_ne HI0.out Ab.out (by decide))) | (show (Addr.add _ _).block ≠ _; rw [add_block]; exact Kd.own_blk (IsS100.own_ne HI0.out Ab.out (by decide))) | exact Kd.own_blk (IsS100.own_ne HI0.out Ab.out (by decide)))
      have HS3_ := keep_cell hk (hHeld.2.2.2) (by first | (rw [add_block]; exact Kd.own_blk (IsS100.own_ne HI0.out Ab.out (by decide))) | (show (Addr.add _ _).block ≠ _; rw [add_block]; exact Kd.own_blk (IsS100.own_ne HI0.out Ab.out (by decide))) | exact Kd.own_blk (IsS100.own_ne HI0.out Ab.out (by decide)))
      refine ⟨_, rfl, ?_⟩
      replace Ab := Aside0.mk (Kd.R_mono (Kd.R_keep (IsS100.apart (show IsS100 w0 _ g s0_0 Ay Ax from yF HI0) (zo Ab.out) (by decide)) hk (fun _ h => h.2)) (fun _ h => h.1))
      replace Ad := Aside0.mk (KeepBut.blk hk (g' := Ah) (o := .cells #[.slice none 0 0] 29 (0, 0)) (zk Ad) Ag.out (by simp))
      replace Ac := Aside0.mk (KeepBut.blk hk (g' := Ai) (o := .cells #[.slice (some B2) Aa.length Cl] 29 (0, 0)) (zk Ac) Af.out (by simp))
      replace Bv := Aside0.mk (Kd.R_mono (Kd.R_keep (IsS100.apart (show IsS100 w0 _ g s0_0 Ay Ax from yF HI0) (zo Bv.out) (by decide)) hk (fun _ h => h.2)) (fun _ h => h.1))
      replace HK := zKt HK hk
      replace HB := Aside0.mk (hb)
      replace HI0 := Aside0.mk (hi)
      (try clear hb)
      (try clear hb2)
      (try clear hk)
      (try clear hi)
      have F8 : 0 ≤ (Ae : Int) := of_decide_eq_true za
      have F6 : (Ae : Int) < ((Aa.length : Int) : Int) := of_decide_eq_true za
      obtain ⟨Br, co38, G4, Gz, gl38, cl38, HG38⟩ := Kd.R_form Ab.out (by omega)
      (first | cases G4 | (injection G4 with ea_ en_ ec_; (first | subst ea_ | (injection ea_ with ea_; subst ea_)); subst ec_; clear en_))
      have GB38 := Aside0.mk Gz
      have GG38 := Aside0.mk HG38
      clear Gz gl38 HG38
      (first | simp only [add_plain] at Bz | skip)
      (first | simp only [add_plain] at Bx | skip)
      (first | simp only [add_plain] at Bw | skip)
      obtain ⟨ce38, Gt, Gx, Cq, Co⟩ := Kd.R_elem Ab.out z45 (Ae : Int) F8 F6
      obtain rfl := k45_openM Gx
      have Fs : World.cell? _ ⟨Br, (Ae : Int).toNat * 3, none⟩ = some (.string ((rd_T45 Aa Ae).f0)) := Cq 0 _ rfl
      have Fr : World.cell? _ ⟨Br, (Ae : Int).toNat * 3 + 1, none⟩ = some (.string ((rd_T45 Aa Ae).f1)) := Cq 1 _ rfl
      have Fq : World.cell? _ ⟨Br, (Ae : Int).toNat * 3 + 2, none⟩ = some (.int .i64 ((rd_T45 Aa Ae).f2)) := Cq 2 _ rfl
      have hf38_0 : World.frozen? _ ⟨Br, (Ae : Int).toNat * 3, none⟩ = false := Co 0
      have hf38_1 : World.frozen? _ ⟨Br, (Ae : Int).toNat * 3 + 1, none⟩ = false := Co 1
      have hf38_2 : World.frozen? _ ⟨Br, (Ae : Int).toNat * 3 + 2, none⟩ = false := Co 2
      clear Gt Cq Co Gx
      replace F8 := eq_true F8
      replace F6 := eq_true F6
      have HN0_go38 := Aside0.mk (show g ≠ Br from by have h_ := IsS100.own_ne HI0.out Ab.out (by decide); intro e_; exact h_ (by rw [e_]; rfl))
      obtain ⟨ce51, D9, Gw, Eb, Gr⟩ := Kd.R_elem Ab.out z45 (Ae : Int) (of_decide_eq_true za) (by have h_ : (Ae : Int) < ((Aa.length : Int) : Int) := of_decide_eq_true za; first | exact h_ | (have e_ := (Kd.R_reads' Ab.out).1; omega) | simpa using h_)
      obtain rfl := k45_openM Gw
      have HP51 := (Kd.R_seg Ab.out (Ae : Int) (of_decide_eq_true za) (by have h_ : (Ae : Int) < ((Aa.length : Int) : Int) := of_decide_eq_true za; first | exact h_ | (have e_ := (Kd.R_reads' Ab.out).1; omega) | simpa using h_) (seg := [.int .i64 Cj]) (j := 2) D9 Eb (show 3 ≤ 3 from by decide) (x' := (⟨(rd_T45 Aa Ae).f0, (rd_T45 Aa Ae).f1, Cj⟩ : S45)) (k45_mkM _ _ _ (⟨(rd_T45 Aa Ae).f0, (rd_T45 Aa Ae).f1, Cj⟩ : S45) ) (fun _ hk => hk)).1
      rw [← Ny337.out] at HP51
      have HQ51 := Aside0.mk HP51
      clear D9 Eb Gr Gw HP51
      refine hK.out _ _ ⟨zv Ac, HS1_, HS2_, HS3_⟩ (fun hHeld => ?_)
      clear hK K
      refine zN ?_
      refine zP 14 (some 58) q15_28 HT_ ?_
      refine zP 15 (some 59) q15_29 HT_ ?_
      refine last_ (i := 16) (N := none) q15_30 rfl rfl (one_of HT_.out (by kernel_rfl)) (by decide) (fun K hK => ?_)
      refine skip_ (w1 := ?_) (by rfl) rfl ?_ ?_
      rotate_left
      ·go_simp
       rfl
      refine hK.out _ _ ?_
      clear hK K
      refine done_ (done_of HT_.out (by kernel_rfl)) ?_
      obtain ⟨Fc, hq_⟩ : ∃ v_, I0.setCell ⟨Br, (Ae : Int).toNat * 3 + 2, none⟩ (.int .i64 Cj) = v_ := ⟨_, rfl⟩
      replace Bv : Aside0 (Kd.R (Kd.int .i64) 3 Fc w.heap.size (fun _ => True) (.slice Hw Cz.length Hd) Cz) := ⟨hq_ ▸ (zo (Kd.R_mono (Kd.R_far (p := ⟨Br, (Ae : Int).toNat * 3 + 2, none⟩) (Kd.R_types Bv.out GG38.out (by decide)) (fun _ hk => hk.2) (.int .i64 Cj)) (fun _ hk => trivial)))⟩
      replace Ad : Aside0 (Fc.heap[Ah]? = some (.cells #[.slice none 0 0] 29 (0, 0))) := ⟨hq_ ▸ (by (with_reducible repeat (first | refine blk_drewN ?_ _ | refine blk_drew ?_ | refine blk_alloc ?_ _)); refine blk_far ?_ (by have h_ := Kd.R_ne Ab.out Ad.out (by decide); intro e_; exact h_ (by rw [e_]; rfl)) _; (with_reducible repeat (first | refine blk_drewN ?_ _ | refine blk_drew ?_ | refine blk_alloc ?_ _)); exact Ad.out)⟩
      replace Ac : Aside0 (Fc.heap[Ai]? = some (.cells #[.slice (some ⟨Br, 0, none⟩) Aa.length Cl] 29 (0, 0))) := ⟨hq_ ▸ (by (with_reducible repeat (first | refine blk_drewN ?_ _ | refine blk_drew ?_ | refine blk_alloc ?_ _)); refine blk_far ?_ (by have h_ := Kd.R_ne Ab.out Ac.out (by decide); intro e_; exact h_ (by rw [e_]; rfl)) _; (with_reducible repeat (first | refine blk_drewN ?_ _ | refine blk_drew ?_ | refine blk_alloc ?_ _)); exact Ac.out)⟩
      replace Ab : Aside0 (Kd.R k45 45 Fc w.heap.size (fun _ => True) (.slice (some ⟨Br, 0, none⟩) Aa.length Cl) F4) := ⟨hq_ ▸ (zo HQ51.out)⟩
      replace HK : Aside0 (KeepBut w Fc g none) := ⟨hq_ ▸ (by repeat (first | (with_reducible first | exact HK.out | apply KeepBut.set_ | apply keep_drewN | apply keep_drew | apply keep_alloc | refine keep_far ?_ GB38.out _ | refine keep_far ?_ Bc.out _ | refine keep_far ?_ Bb.out _) | exact HK.out))⟩
      replace HB : Aside0 (Below w0.heap.size w0 Fc) := ⟨hq_ ▸ (by repeat (first | (with_reducible first | exact HB.out | apply zD | apply zE | apply zF | refine below_set ?_ (Nat.le_trans HL.out GB38.out) | refine below_set ?_ (IsS100.ge HI0.out) | refine below_set ?_ Dh.out | refine below_set ?_ Dg.out) | exact HB.out))⟩
      replace HI0 : Aside0 (IsS100 w0 Fc g s0_0 Ds Dr) := ⟨hq_ ▸ (by repeat (first | (with_reducible first | exact HI0.out | apply IsS100.alloc | apply IsS100.drewN | apply IsS100.drew | apply IsS100.set_1 | apply IsS100.set_2 | refine IsS100.far ?_ HN0_go38.out _ | refine IsS100.far ?_ Al.out _ | refine IsS100.far ?_ Ak.out _) | exact HI0.out))⟩
      (try rw [hq_])
      clear hq_
      obtain ⟨Gp, Gg⟩ := zc1 Ac
      have hnb54 := Ag.out
      have hnc54 := Al.out
      obtain ⟨Gn, Gf⟩ := zc1 Ad
      try go_wp2
      refine bodyPost_ret (results_cell_row rfl _ _ Ah 29 #[.slice (some ⟨Br, 0, none⟩) Aa.length Cl] (0, 0) _ rfl (zj Ad) Try.underlying29 rfl (by kernel_rfl)) rfl ?_
      exact ⟨_, ze, zo (Kd.R_mono (Kd.R_far (p := ⟨Ah, 0, none⟩) (Kd.R_types Ab.out Ad.out (by decide)) (fun _ hk => hk.2) (.slice (some ⟨Br, 0, none⟩) Aa.length Cl)) (fun _ hk => trivial)), by repeat (first | (with_reducible first | exact HI0.out | apply IsS100.alloc | apply IsS100.drewN | apply IsS100.drew | apply IsS100.set_1 | apply IsS100.set_2 | refine IsS100.far ?_ Al.out _ | refine IsS100.far ?_ Ak.out _) | exact HI0.out), yw HB, by repeat (first | (with_reducible first | exact HK.out | apply KeepBut.set_ | apply keep_drewN | apply keep_drew | apply keep_alloc | refine keep_far ?_ Bc.out _ | refine keep_far ?_ Bb.out _) | exact HK.out)⟩
     rw [if_neg Hq] at H
     exact absurd H (by simp)
    rw [if_neg Hr] at H
    exact absurd H (by simp)
   rw [if_neg Ex] at H
   have Ew : (Au == 0) = false := beq_eq_false_iff_ne.mpr Ex
   have Eu : (Au != 0) = true := bne_iff_ne.mpr Ex
   by_cases Et : Au = 1
   ·rw [if_pos Et] at H
    have Es : (Au == 1) = true := beq_iff_eq.mpr Et
    have Er : (Au != 1) = false := bne_eq_false_iff_eq.mpr Et
    clear Et
    by_cases Hp : 0 ≤ Ae
    ·rw [if_pos Hp] at H
     have Ho := decide_eq_true Hp
     clear Hp
     by_cases Hn : Ae < (Aa.length : Int)
     ·rw [if_pos Hn] at H
      have Hm := decide_eq_true Hn
      clear Hn
      by_cases Hl : Aa.length < 3518437208883
      ·rw [if_pos Hl] at H
       have LMc59 := Aside0.mk Hl
       clear Hl
       obtain ⟨Dk, C6⟩ : ∃ y_ : List (S45), y_ = (Aa ++ [(⟨(rd_T45 Aa Ae).f0, (rd_T45 Aa Ae).f1, (rd_T45 Aa Ae).f2⟩ : S45)]) := ⟨_, rfl⟩
       replace H : (some (Dk, Ay, Ax)) = some (r1, r2, r3) := zrw C6 H
       have Ny339 := Aside0.mk C6
       clear C6
       simp only [Option.some.injEq, Prod.mk.injEq] at H
       obtain ⟨rfl, rfl, rfl⟩ := H
       try go_wp2_with (first | ((with_reducible refine gate_callee (f := 56) rfl ?_); refine zG (some 11) Try.func56 #[.pointer (some ⟨g, 0, none⟩), .int .i64 6] ?_; (with_reducible refine (spec_l01Below.calls g s0_0 Ap Ao 6 Cb Ba Az w0 _ ?side1 ?side2 A7.out).mono ?_); (case side1 => exact yF HI0); (case side2 => exact yw HB); rintro e w60 ⟨rfl, hi, hb, hk⟩; refine ⟨_, rfl, ?_⟩; replace Ab := Aside0.mk (Kd.R_mono (Kd.R_keep (IsS100.apart (show IsS100 w0 _ g s0_0 Ap Ao from yF HI0) (zo Ab.out) (by decide)) hk (fun _ h => h.2)) (fun _ h => h.1)); replace Ad := Aside0.mk (KeepBut.blk hk (g' := Ah) (o := .cells #[.slice none 0 0] 29 (0, 0)) (zk Ad) Ag.out (by simp)); replace Ac := Aside0.mk (KeepBut.blk hk (g' := Ai) (o := .cells #[Aj] 29 (0, 0)) (zk Ac) Af.out (by simp)); replace HK := zKt HK hk; replace HB := Aside0.mk (hb); replace HI0 := Aside0.mk (hi); clear hi hb hk; have hnb61 := Aq.out; have hnc61 := Ar.out; have hnb62 := Af.out; have hnc62 := Ak.out; obtain ⟨Gm, Ge⟩ := zc1 Ac; obtain ⟨Hv, Dd, Ik⟩ := Kd.R_slice Ab.out; subst Ik) | ((with_reducible refine gate_callee (f := 56) rfl ?_); refine zG (some 39) Try.func56 #[.pointer (some ⟨g, 0, none⟩), .int .i64 (Aa.length : Int)] ?_; (with_reducible refine (spec_l01Below.calls g s0_0 Ba Az (Aa.length : Int) Ae Bj Bi w0 _ ?side1 ?side2 F1.out).mono ?_); (case side1 => exact yF HI0); (case side2 => exact yw HB); rintro e w65 ⟨rfl, hi, hb, hk⟩; refine ⟨_, rfl, ?_⟩; replace Ab := Aside0.mk (Kd.R_mono (Kd.R_keep (IsS100.apart (show IsS100 w0 _ g s0_0 Ba Az from yF HI0) (zo Ab.out) (by decide)) hk (fun _ h => h.2)) (fun _ h => h.1)); replace Ad := Aside0.mk (KeepBut.blk hk (g' := Ah) (o := .cells #[.slice none 0 0] 29 (0, 0)) (zk Ad) Ag.out (by simp)); replace Ac := Aside0.mk (KeepBut.blk hk (g' := Ai) (o := .cells #[.slice Hv Aa.length Dd] 29 (0, 0)) (zk Ac) Af.out (by simp)); replace HK := zKt HK hk; replace HB := Aside0.mk (hb); replace HI0 := Aside0.mk (hi); clear hi hb hk) | ((with_reducible refine gate_callee (f := 56) rfl ?_); refine zG (some 41) Try.func56 #[.pointer (some ⟨g, 0, none⟩), .int .i64 40] ?_; (with_reducible refine (spec_l01Below.calls g s0_0 Bj Bi 40 Au Ay Ax w0 _ ?side1 ?side2 F0.out).mono ?_); (case side1 => exact yF HI0); (case side2 => exact yw HB); rintro e Iz ⟨rfl, hi, hb, hk⟩; refine ⟨_, rfl, ?_⟩; replace Ab := Aside0.mk (Kd.R_mono (Kd.R_keep (IsS100.apart (show IsS100 w0 _ g s0_0 Bj Bi from yF HI0) (zo Ab.out) (by decide)) hk (fun _ h => h.2)) (fun _ h => h.1)); replace Ad := Aside0.mk (KeepBut.blk hk (g' := Ah) (o := .cells #[.slice none 0 0] 29 (0, 0)) (zk Ad) Ag.out (by simp)); replace Ac := Aside0.mk (KeepBut.blk hk (g' := Ai) (o := .cells #[.slice Hv Aa.length Dd] 29 (0, 0)) (zk Ac) Af.out (by simp)); replace HK := zKt HK hk; replace HB := Aside0.mk (hb); replace HI0 := Aside0.mk (hi); clear hi hb hk))
       replace Ab := zd3 Ab
       replace Ad := zd1 Ad
       replace Ac := zd1 Ac
       replace HI0 := Aside0.mk (IsS100.drew HI0.out)
       replace HK := Aside0.mk (keep_drew HK.out)
       replace HB := zd2 HB
       have D2 : 0 ≤ (Ae : Int) := of_decide_eq_true za
       have D1 : Ae < (Aa.length : Int) := of_decide_eq_true za
       obtain ⟨Bt, In, Cf, Ce, Cd⟩ := at_T45 (Kd.R_reads' Ab.out).2.2 Ae D2 D1
       cases In
       replace D2 := eq_true D2
       replace D1 := eq_true D1
       refine start_ (n := 11) (S := fun w' => w'.cell? ⟨Ai, 0, none⟩ = some (.slice (some Bt) Aa.length Dd) ∧ w'.cell? (Bt.add ((Ae).toNat * 3)) = some (.string ((rd_T45 Aa Ae).f0)) ∧ w'.cell? ⟨(Bt.add ((Ae).toNat * 3)).block, (Bt.add ((Ae).toNat * 3)).off + 1, none⟩ = some (.string ((rd_T45 Aa Ae).f1)) ∧ w'.cell? ⟨(Bt.add ((Ae).toNat * 3)).block, (Bt.add ((Ae).toNat * 3)).off + 2, none⟩ = some (.int .i64 ((rd_T45 Aa Ae).f2))) (ds := [8, 10]) q15_31 (by kernel_rfl) rfl rfl ⟨zv Ac, Cf, Ce, Cd⟩ (fun hHeld => ?_); refine with_tabW spec_l03Disk.tab14 spec_l03Disk.bits14 (fun HT_ HW_ => ?_)
       generalize Iz.drew = w67 at Ab Ad Ac HI0 HK HB Cf Ce Cd hHeld ⊢
       refine zP 0 (some 62) q15_32 HT_ ?_
       refine zP 2 (some 64) q15_33 HT_ ?_
       refine zP 4 (some 66) q15_34 HT_ ?_
       refine zT 1 (some 63) q15_35 HT_ HW_ hHeld ?_
       refine zT 3 (some 65) q15_36 HT_ HW_ hHeld ?_
       refine zP 5 (some 67) q15_37 HT_ ?_
       refine zT 6 (some 68) q15_38 HT_ HW_ hHeld ?_
       refine one_ (i := 7) (N := some 69) q15_39 rfl rfl (one_of HT_.out (by kernel_rfl)) (by decide) (fun K hK => ?_)
       refine value_ (w1 := ?_) (v := ?_) (by rfl) rfl ?_ ?_
       rotate_left 2
       ·go_simp
        constructor
        ·rfl
        rfl
       refine hK.out _ _ ⟨zva Ac, (World.cell?_alloc_lt _ _ _ (World.block_lt_of_cell? _ _ (hHeld.2.1))).trans (hHeld.2.1), (World.cell?_alloc_lt _ _ _ (World.block_lt_of_cell? _ _ (hHeld.2.2.1))).trans (hHeld.2.2.1), (World.cell?_alloc_lt _ _ _ (World.block_lt_of_cell? _ _ (hHeld.2.2.2))).trans (hHeld.2.2.2)⟩ (fun hHeld => ?_)
       clear hK K
       refine zN ?_
       refine last_ (i := 8) (N := some 70) q15_40 rfl rfl (one_of HT_.out (by kernel_rfl)) (by decide) (fun K hK => ?_)
       refine Kd.R_append_step k45 w.heap.size (by rfl) (.tmp 63) (.tmp 69) 27 45 (.agg #[(.string ⟨#[]⟩), (.string ⟨#[]⟩), (.int .i64 0)]) 40 rfl Try.underlying27 info45 rfl (by decide) (by omega) (.slice (some Bt) Aa.length Dd) Aa (⟨(rd_T45 Aa Ae).f0, (rd_T45 Aa Ae).f1, (rd_T45 Aa Ae).f2⟩ : S45) [.string ((rd_T45 Aa Ae).f0), .string ((rd_T45 Aa Ae).f1), .int .i64 ((rd_T45 Aa Ae).f2)] (fun _ => True) (fun _ => False) rfl rfl ?aP (fun _ hk => hk.elim) ?aF ?aO (Below.refl _ _) ?aS ?aL ?_
       (case aP => exact k45_mkM _ _ _ (⟨(rd_T45 Aa Ae).f0, (rd_T45 Aa Ae).f1, (rd_T45 Aa Ae).f2⟩ : S45))
       (case aF => exact (fun _ _ => trivial))
       (case aO => exact (zo Ab.out))
       (case aS => exact (zKs HK))
       (case aL => have := LMc59.out; omega)
       intro v340 Iy ho hb hg hat
       rw [← Ny339.out] at ho
       replace Ad := zbg Ad hg Ab
       replace Ac := zbg Ac hg Ab
       replace HB := Aside0.mk (below_weaken (yw HB) HL.out hb)
       replace HI0 := Aside0.mk (IsS100.grown (yF HI0) hg (IsS100.own_ne HI0.out Ab.out (by decide)))
       replace HK := Aside0.mk (KeepBut.trans (by repeat (first | (with_reducible first | exact HK.out | apply KeepBut.set_ | apply keep_drewN | apply keep_drew | apply keep_alloc | refine keep_far ?_ Bc.out _ | refine keep_far ?_ Bb.out _) | exact HK.out)) (KeepBut.of_grown hg g) (Kd.R_base2 Ab.out))
       have E1 := Aside0.mk (ho)
       clear Ab
       clear ho hb hg hat
       obtain ⟨Fz, Fv, G2⟩ := Kd.R_slice E1.out
       (first | subst G2 | (injection G2 with f1_ f2_ f3_; have f4_ := f1_.symm; have f5_ := f3_.symm; clear f1_ f2_ f3_; subst f4_; subst f5_))
       refine hK.out _ _ ?_
       clear hK K
       refine zN ?_
       refine zP 9 (some 71) q15_41 HT_ ?_
       refine last_ (i := 10) (N := none) q15_42 rfl rfl (one_of HT_.out (by kernel_rfl)) (by decide) (fun K hK => ?_)
       have hs70 : Iy.cell? ⟨Ai, 0, none⟩ = some (.slice (some Bt) Aa.length Dd) := zv Ac
       have hfs70 := blk_frozen Ac.out 0
       have hns70_0 := Ar.out
       have hms70_0 := Aq.out
       refine skip_ (w1 := ?_) (by rfl) rfl ?_ ?_
       rotate_left
       ·go_simp
        rfl
       refine hK.out _ _ ?_
       clear hK K
       refine done_ (done_of HT_.out (by kernel_rfl)) ?_
       obtain ⟨Gl, Gd⟩ := zc1 Ac
       have hnb72 := Ag.out
       have hnc72 := Al.out
       obtain ⟨Gk, Gc⟩ := zc1 Ad
       try go_wp2
       refine bodyPost_ret (results_cell_row rfl _ _ Ah 29 #[.slice Fz Dk.length Fv] (0, 0) _ rfl (zj Ad) Try.underlying29 rfl (by kernel_rfl)) rfl ?_
       exact ⟨_, ze, zo (Kd.R_mono (Kd.R_far (p := ⟨Ah, 0, none⟩) (Kd.R_far (p := ⟨Ai, 0, none⟩) (Kd.R_types (Kd.R_types E1.out Ac.out (by decide)) Ad.out (by decide)) (fun _ hk => hk.1.2) (.slice Fz Dk.length Fv)) (fun _ hk => hk.2) (.slice Fz Dk.length Fv)) (fun _ hk => trivial)), by repeat (first | (with_reducible first | exact HI0.out | apply IsS100.alloc | apply IsS100.drewN | apply IsS100.drew | apply IsS100.set_1 | apply IsS100.set_2 | refine IsS100.far ?_ Al.out _ | refine IsS100.far ?_ Ak.out _) | exact HI0.out), yw HB, by repeat (first | (with_reducible first | exact HK.out | apply KeepBut.set_ | apply keep_drewN | apply keep_drew | apply keep_alloc | refine keep_far ?_ Bc.out _ | refine keep_far ?_ Bb.out _) | exact HK.out)⟩
      rw [if_neg Hl] at H
      exact absurd H (by simp)
     rw [if_neg Hn] at H
     exact absurd H (by simp)
    rw [if_neg Hp] at H
    exact absurd H (by simp)
   rw [if_neg Et] at H
   have Es : (Au == 1) = false := beq_eq_false_iff_ne.mpr Et
   have Er : (Au != 1) = true := bne_iff_ne.mpr Et
   by_cases Eq : Au = 2
   ·rw [if_pos Eq] at H
    have Ep : (Au == 2) = true := beq_iff_eq.mpr Eq
    have Eo : (Au != 2) = false := bne_eq_false_iff_eq.mpr Eq
    clear Eq
    obtain ⟨Cy, C5⟩ : ∃ y_ : List ByteArray, y_ = (([(⟨#[]⟩ : ByteArray), (⟨#[49, 50, 51, 52, 53, 54, 55, 56]⟩ : ByteArray), (⟨#[49, 50, 51, 52, 53, 54, 55, 56, 57]⟩ : ByteArray)] : List ByteArray)) := ⟨_, rfl⟩
    replace H : ((spec_l01Pick.f s0_0 Ay Ax Cy).bind fun Bd => (if 0 ≤ Ae then (if Ae < (Aa.length : Int) then (some ((Aa.set (Ae : Int).toNat (⟨Bd.1, (rd_T45 Aa Ae).f1, (rd_T45 Aa Ae).f2⟩ : S45)), Bd.2.1, Bd.2.2)) else (none)) else (none))) = some (r1, r2, r3) := zrw C5 H
    have Ny342 := Aside0.mk C5
    clear C5
    replace H := Option.bind_eq_some_iff.mp H
    obtain ⟨⟨Ci, Dq, Dp⟩, H1, H⟩ := H
    replace H : (if 0 ≤ Ae then (if Ae < (Aa.length : Int) then (some ((Aa.set (Ae : Int).toNat (⟨Ci, (rd_T45 Aa Ae).f1, (rd_T45 Aa Ae).f2⟩ : S45)), Dq, Dp)) else (none)) else (none)) = some (r1, r2, r3) := H
    have I4 := Aside0.mk H1
    clear H1
    by_cases Hk : 0 ≤ Ae
    ·rw [if_pos Hk] at H
     have Hj := decide_eq_true Hk
     clear Hk
     by_cases Hi : Ae < (Aa.length : Int)
     ·rw [if_pos Hi] at H
      have Hh := decide_eq_true Hi
      clear Hi
      obtain ⟨F3, C4⟩ : ∃ y_ : List (S45), y_ = (Aa.set (Ae : Int).toNat (⟨Ci, (rd_T45 Aa Ae).f1, (rd_T45 Aa Ae).f2⟩ : S45)) := ⟨_, rfl⟩
      replace H : (some (F3, Dq, Dp)) = some (r1, r2, r3) := zrw C4 H
      have Ny348 := Aside0.mk C4
      clear C4
      simp only [Option.some.injEq, Prod.mk.injEq] at H
      obtain ⟨rfl, rfl, rfl⟩ := H
      try go_wp2_with (first | ((with_reducible refine gate_callee (f := 56) rfl ?_); refine zG (some 11) Try.func56 #[.pointer (some ⟨g, 0, none⟩), .int .i64 6] ?_; (with_reducible refine (spec_l01Below.calls g s0_0 Ap Ao 6 Cb Ba Az w0 _ ?side1 ?side2 A7.out).mono ?_); (case side1 => exact yF HI0); (case side2 => exact yw HB); rintro e w79 ⟨rfl, hi, hb, hk⟩; refine ⟨_, rfl, ?_⟩; replace Ab := Aside0.mk (Kd.R_mono (Kd.R_keep (IsS100.apart (show IsS100 w0 _ g s0_0 Ap Ao from yF HI0) (zo Ab.out) (by decide)) hk (fun _ h => h.2)) (fun _ h => h.1)); replace Ad := Aside0.mk (KeepBut.blk hk (g' := Ah) (o := .cells #[.slice none 0 0] 29 (0, 0)) (zk Ad) Ag.out (by simp)); replace Ac := Aside0.mk (KeepBut.blk hk (g' := Ai) (o := .cells #[Aj] 29 (0, 0)) (zk Ac) Af.out (by simp)); replace HK := zKt HK hk; replace HB := Aside0.mk (hb); replace HI0 := Aside0.mk (hi); clear hi hb hk; have hnb80 := Aq.out; have hnc80 := Ar.out; have hnb81 := Af.out; have hnc81 := Ak.out; obtain ⟨Gj, Gb⟩ := zc1 Ac; obtain ⟨D6, Ck, Ij⟩ := Kd.R_slice Ab.out; subst Ij) | ((with_reducible refine gate_callee (f := 56) rfl ?_); refine zG (some 39) Try.func56 #[.pointer (some ⟨g, 0, none⟩), .int .i64 (Aa.length : Int)] ?_; (with_reducible refine (spec_l01Below.calls g s0_0 Ba Az (Aa.length : Int) Ae Bj Bi w0 _ ?side1 ?side2 F1.out).mono ?_); (case side1 => exact yF HI0); (case side2 => exact yw HB); rintro e w84 ⟨rfl, hi, hb, hk⟩; refine ⟨_, rfl, ?_⟩; replace Ab := Aside0.mk (Kd.R_mono (Kd.R_keep (IsS100.apart (show IsS100 w0 _ g s0_0 Ba Az from yF HI0) (zo Ab.out) (by decide)) hk (fun _ h => h.2)) (fun _ h => h.1)); replace Ad := Aside0.mk (KeepBut.blk hk (g' := Ah) (o := .cells #[.slice none 0 0] 29 (0, 0)) (zk Ad) Ag.out (by simp)); replace Ac := Aside0.mk (KeepBut.blk hk (g' := Ai) (o := .cells #[.slice D6 Aa.length Ck] 29 (0, 0)) (zk Ac) Af.out (by simp)); replace HK := zKt HK hk; replace HB := Aside0.mk (hb); replace HI0 := Aside0.mk (hi); clear hi hb hk) | ((with_reducible refine gate_callee (f := 56) rfl ?_); refine zG (some 41) Try.func56 #[.pointer (some ⟨g, 0, none⟩), .int .i64 40] ?_; (with_reducible refine (spec_l01Below.calls g s0_0 Bj Bi 40 Au Ay Ax w0 _ ?side1 ?side2 F0.out).mono ?_); (case side1 => exact yF HI0); (case side2 => exact yw HB); rintro e Ix ⟨rfl, hi, hb, hk⟩; refine ⟨_, rfl, ?_⟩; replace Ab := Aside0.mk (Kd.R_mono (Kd.R_keep (IsS100.apart (show IsS100 w0 _ g s0_0 Bj Bi from yF HI0) (zo Ab.out) (by decide)) hk (fun _ h => h.2)) (fun _ h => h.1)); replace Ad := Aside0.mk (KeepBut.blk hk (g' := Ah) (o := .cells #[.slice none 0 0] 29 (0, 0)) (zk Ad) Ag.out (by simp)); replace Ac := Aside0.mk (KeepBut.blk hk (g' := Ai) (o := .cells #[.slice D6 Aa.length Ck] 29 (0, 0)) (zk Ac) Af.out (by simp)); replace HK := zKt HK hk; replace HB := Aside0.mk (hb); replace HI0 := Aside0.mk (hi); clear hi hb hk))
      replace Ab := zd3 Ab
      replace Ad := zd1 Ad
      replace Ac := zd1 Ac
      replace HI0 := Aside0.mk (IsS100.drew HI0.out)
      replace HK := Aside0.mk (keep_drew HK.out)
      replace HB := zd2 HB
      refine start_ (n := 9) (S := fun w' => w'.cell? ⟨Ai, 0, none⟩ = some (.slice D6 Aa.length Ck)) (ds := [8]) q15_43 (by kernel_rfl) rfl rfl (zv Ac) (fun hHeld => ?_); refine with_tabW spec_l03Disk.tab16 spec_l03Disk.bits16 (fun HT_ HW_ => ?_)
      generalize Ix.drew = w86 at Ab Ad Ac HI0 HK HB hHeld ⊢
      refine zP 0 (some 74) q15_44 HT_ ?_
      refine zP 2 (some 76) q15_45 HT_ ?_
      refine zP 3 (some 77) q15_46 HT_ ?_
      refine zT 1 (some 75) q15_47 HT_ HW_ hHeld ?_
      refine one_ (i := 4) (N := some 78) q15_48 rfl rfl (one_of HT_.out (by kernel_rfl)) (by decide) (fun K hK => ?_)
      refine Kd.R_lit_step Kd.string _ 9 ?hg (N := 78) ?hd (xs := ([(⟨#[]⟩ : ByteArray), (⟨#[49, 50, 51, 52, 53, 54, 55, 56]⟩ : ByteArray), (⟨#[49, 50, 51, 52, 53, 54, 55, 56, 57]⟩ : ByteArray)] : List ByteArray)) (inner := [.string (⟨#[]⟩ : ByteArray), .string (⟨#[49, 50, 51, 52, 53, 54, 55, 56]⟩ : ByteArray), .string (⟨#[49, 50, 51, 52, 53, 54, 55, 56, 57]⟩ : ByteArray)]) (ok := fun _ => True) (okp := fun _ => True) ?hr ?hp (fun _ hk => hk) trivial (Below.refl _ _) (Nat.le_refl _) (by simp) ?_; (case hd => rfl); (case hg => rfl); (case hr => first | (go_simp; done) | (go_simp; rfl)); (case hp => exact (Reps.one (show Kd.M Kd.string _ _ _ (⟨#[]⟩ : ByteArray) [.string (⟨#[]⟩ : ByteArray)] from rfl) (Reps.one (show Kd.M Kd.string _ _ _ (⟨#[49, 50, 51, 52, 53, 54, 55, 56]⟩ : ByteArray) [.string (⟨#[49, 50, 51, 52, 53, 54, 55, 56]⟩ : ByteArray)] from rfl) (Reps.one (show Kd.M Kd.string _ _ _ (⟨#[49, 50, 51, 52, 53, 54, 55, 56, 57]⟩ : ByteArray) [.string (⟨#[49, 50, 51, 52, 53, 54, 55, 56, 57]⟩ : ByteArray)] from rfl) (Reps.none _ _)))))
      intro v343 w87 C9 hb hg_ hnew_
      clear hg_ hnew_
      (first | rw [← Ny342.out] at C9 | (simp only [Int.reduceToNat] at C9; rw [← Ny342.out] at C9))
      replace Ab := zy Ab hb
      have Bu := Aside0.mk (Kd.R_lower C9 (zKs HK))
      replace Ad := zb Ad hb
      replace Ac := zb Ac hb
      replace HK := zKt HK (KeepBut.of_below hb g none)
      replace HB := ys HB hb
      replace HI0 := Aside0.mk (IsS100.below (yF HI0) hb)
      clear hb C9
      obtain ⟨Hu, Hc, G0⟩ := Kd.R_slice Bu.out
      (first | subst G0 | (injection G0 with f1_ f2_ f3_; have f4_ := f1_.symm; have f5_ := f3_.symm; clear f1_ f2_ f3_; subst f4_; subst f5_))
      refine hK.out _ _ (zv Ac) (fun hHeld => ?_)
      clear hK K
      refine zN ?_
      refine one_ (i := 5) (N := some 79) q15_49 rfl rfl (one_of HT_.out (by kernel_rfl)) (by decide) (fun K hK => ?_)
      refine zH Try.func79 #[.pointer (some ⟨g, 0, none⟩), .slice Hu Cy.length Hc] ?_
      with_reducible refine (spec_l01Pick.calls g s0_0 Ay Ax _ _ Cy Ci Dq Dp w0 _ ?side1 ?side2 ?side3 ?side4 ?side5 I4.out).mono ?_
      (case side1 => exact yF HI0)
      (case side2 => exact yw HB)
      (case side3 => exact zI (Kd.R_reads' Bu.out).2.2)
      (case side4 => exact (Kd.R_reads' Bu.out).2.1)
      (case side5 => exact far_slice (IsS100.own_ne HI0.out Bu.out (by decide)))
      rintro e Iw ⟨rfl, hi, hb, hk⟩
      refine ⟨_, rfl, ?_⟩
      replace Ab := Aside0.mk (Kd.R_mono (Kd.R_keep (IsS100.apart (show IsS100 w0 _ g s0_0 Ay Ax from yF HI0) (zo Ab.out) (by decide)) hk (fun _ h => h.2)) (fun _ h => h.1))
      replace Ad := Aside0.mk (KeepBut.blk hk (g' := Ah) (o := .cells #[.slice none 0 0] 29 (0, 0)) (zk Ad) Ag.out (by simp))
      replace Ac := Aside0.mk (KeepBut.blk hk (g' := Ai) (o := .cells #[.slice D6 Aa.length Ck] 29 (0, 0)) (zk Ac) Af.out (by simp))
      replace Bu := Aside0.mk (Kd.R_mono (Kd.R_keep (IsS100.apart (show IsS100 w0 _ g s0_0 Ay Ax from yF HI0) (zo Bu.out) (by decide)) hk (fun _ h => h.2)) (fun _ h => h.1))
      replace HK := zKt HK hk
      replace HB := Aside0.mk (hb)
      replace HI0 := Aside0.mk (hi)
      (try clear hb)
      (try clear hb2)
      (try clear hk)
      (try clear hi)
      have F7 : 0 ≤ (Ae : Int) := of_decide_eq_true za
      have F5 : (Ae : Int) < ((Aa.length : Int) : Int) := of_decide_eq_true za
      obtain ⟨Bq, co78, G1, Gy, gl78, cl78, HG78⟩ := Kd.R_form Ab.out (by omega)
      (first | cases G1 | (injection G1 with ea_ en_ ec_; (first | subst ea_ | (injection ea_ with ea_; subst ea_)); subst ec_; clear en_))
      have GB78 := Aside0.mk Gy
      have GG78 := Aside0.mk HG78
      clear Gy gl78 HG78
      obtain ⟨ce78, Gs, Gv, Cp, Cn⟩ := Kd.R_elem Ab.out z45 (Ae : Int) F7 F5
      obtain rfl := k45_openM Gv
      have Fp : World.cell? _ ⟨Bq, (Ae : Int).toNat * 3, none⟩ = some (.string ((rd_T45 Aa Ae).f0)) := Cp 0 _ rfl
      have Fo : World.cell? _ ⟨Bq, (Ae : Int).toNat * 3 + 1, none⟩ = some (.string ((rd_T45 Aa Ae).f1)) := Cp 1 _ rfl
      have Fn : World.cell? _ ⟨Bq, (Ae : Int).toNat * 3 + 2, none⟩ = some (.int .i64 ((rd_T45 Aa Ae).f2)) := Cp 2 _ rfl
      have hf78_0 : World.frozen? _ ⟨Bq, (Ae : Int).toNat * 3, none⟩ = false := Cn 0
      have hf78_1 : World.frozen? _ ⟨Bq, (Ae : Int).toNat * 3 + 1, none⟩ = false := Cn 1
      have hf78_2 : World.frozen? _ ⟨Bq, (Ae : Int).toNat * 3 + 2, none⟩ = false := Cn 2
      clear Gs Cp Cn Gv
      replace F7 := eq_true F7
      replace F5 := eq_true F5
      have HN0_go78 := Aside0.mk (show g ≠ Bq from by have h_ := IsS100.own_ne HI0.out Ab.out (by decide); intro e_; exact h_ (by rw [e_]; rfl))
      obtain ⟨ce91, D8, Gu, Ea, Gq⟩ := Kd.R_elem Ab.out z45 (Ae : Int) (of_decide_eq_true za) (by have h_ : (Ae : Int) < ((Aa.length : Int) : Int) := of_decide_eq_true za; first | exact h_ | (have e_ := (Kd.R_reads' Ab.out).1; omega) | simpa using h_)
      obtain rfl := k45_openM Gu
      have HP91 := (Kd.R_seg Ab.out (Ae : Int) (of_decide_eq_true za) (by have h_ : (Ae : Int) < ((Aa.length : Int) : Int) := of_decide_eq_true za; first | exact h_ | (have e_ := (Kd.R_reads' Ab.out).1; omega) | simpa using h_) (seg := [.string Ci]) (j := 0) D8 Ea (show 1 ≤ 3 from by decide) (x' := (⟨Ci, (rd_T45 Aa Ae).f1, (rd_T45 Aa Ae).f2⟩ : S45)) (k45_mkM _ _ _ (⟨Ci, (rd_T45 Aa Ae).f1, (rd_T45 Aa Ae).f2⟩ : S45) ) (fun _ hk => hk)).1
      rw [← Ny348.out] at HP91
      have HQ91 := Aside0.mk HP91
      clear D8 Ea Gq Gu HP91
      refine hK.out _ _ (zv Ac) (fun hHeld => ?_)
      clear hK K
      refine zN ?_
      refine zP 6 (some 80) q15_50 HT_ ?_
      refine zP 7 (some 81) q15_51 HT_ ?_
      refine last_ (i := 8) (N := none) q15_52 rfl rfl (one_of HT_.out (by kernel_rfl)) (by decide) (fun K hK => ?_)
      refine skip_ (w1 := ?_) (by rfl) rfl ?_ ?_
      rotate_left
      ·go_simp
       rfl
      refine hK.out _ _ ?_
      clear hK K
      refine done_ (done_of HT_.out (by kernel_rfl)) ?_
      obtain ⟨Fb, hq_⟩ : ∃ v_, Iw.setCell ⟨Bq, (Ae : Int).toNat * 3, none⟩ (.string Ci) = v_ := ⟨_, rfl⟩
      replace Bu : Aside0 (Kd.R Kd.string 9 Fb w.heap.size (fun _ => True) (.slice Hu Cy.length Hc) Cy) := ⟨hq_ ▸ (zo (Kd.R_mono (Kd.R_far (p := ⟨Bq, (Ae : Int).toNat * 3, none⟩) (Kd.R_types Bu.out GG78.out (by decide)) (fun _ hk => hk.2) (.string Ci)) (fun _ hk => trivial)))⟩
      replace Ad : Aside0 (Fb.heap[Ah]? = some (.cells #[.slice none 0 0] 29 (0, 0))) := ⟨hq_ ▸ (by (with_reducible repeat (first | refine blk_drewN ?_ _ | refine blk_drew ?_ | refine blk_alloc ?_ _)); refine blk_far ?_ (by have h_ := Kd.R_ne Ab.out Ad.out (by decide); intro e_; exact h_ (by rw [e_]; rfl)) _; (with_reducible repeat (first | refine blk_drewN ?_ _ | refine blk_drew ?_ | refine blk_alloc ?_ _)); exact Ad.out)⟩
      replace Ac : Aside0 (Fb.heap[Ai]? = some (.cells #[.slice (some ⟨Bq, 0, none⟩) Aa.length Ck] 29 (0, 0))) := ⟨hq_ ▸ (by (with_reducible repeat (first | refine blk_drewN ?_ _ | refine blk_drew ?_ | refine blk_alloc ?_ _)); refine blk_far ?_ (by have h_ := Kd.R_ne Ab.out Ac.out (by decide); intro e_; exact h_ (by rw [e_]; rfl)) _; (with_reducible repeat (first | refine blk_drewN ?_ _ | refine blk_drew ?_ | refine blk_alloc ?_ _)); exact Ac.out)⟩
      replace Ab : Aside0 (Kd.R k45 45 Fb w.heap.size (fun _ => True) (.slice (some ⟨Bq, 0, none⟩) Aa.length Ck) F3) := ⟨hq_ ▸ (zo HQ91.out)⟩
      replace HK : Aside0 (KeepBut w Fb g none) := ⟨hq_ ▸ (by repeat (first | (with_reducible first | exact HK.out | apply KeepBut.set_ | apply keep_drewN | apply keep_drew | apply keep_alloc | refine keep_far ?_ GB78.out _ | refine keep_far ?_ Bc.out _ | refine keep_far ?_ Bb.out _) | exact HK.out))⟩
      replace HB : Aside0 (Below w0.heap.size w0 Fb) := ⟨hq_ ▸ (by repeat (first | (with_reducible first | exact HB.out | apply zD | apply zE | apply zF | refine below_set ?_ (Nat.le_trans HL.out GB78.out) | refine below_set ?_ (IsS100.ge HI0.out) | refine below_set ?_ Dh.out | refine below_set ?_ Dg.out) | exact HB.out))⟩
      replace HI0 : Aside0 (IsS100 w0 Fb g s0_0 Dq Dp) := ⟨hq_ ▸ (by repeat (first | (with_reducible first | exact HI0.out | apply IsS100.alloc | apply IsS100.drewN | apply IsS100.drew | apply IsS100.set_1 | apply IsS100.set_2 | refine IsS100.far ?_ HN0_go78.out _ | refine IsS100.far ?_ Al.out _ | refine IsS100.far ?_ Ak.out _) | exact HI0.out))⟩
      (try rw [hq_])
      clear hq_
      obtain ⟨Gi, Ga⟩ := zc1 Ac
      have hnb94 := Ag.out
      have hnc94 := Al.out
      obtain ⟨Gh, F9⟩ := zc1 Ad
      try go_wp2
      refine bodyPost_ret (results_cell_row rfl _ _ Ah 29 #[.slice (some ⟨Bq, 0, none⟩) Aa.length Ck] (0, 0) _ rfl (zj Ad) Try.underlying29 rfl (by kernel_rfl)) rfl ?_
      exact ⟨_, ze, zo (Kd.R_mono (Kd.R_far (p := ⟨Ah, 0, none⟩) (Kd.R_types Ab.out Ad.out (by decide)) (fun _ hk => hk.2) (.slice (some ⟨Bq, 0, none⟩) Aa.length Ck)) (fun _ hk => trivial)), by repeat (first | (with_reducible first | exact HI0.out | apply IsS100.alloc | apply IsS100.drewN | apply IsS100.drew | apply IsS100.set_1 | apply IsS100.set_2 | refine IsS100.far ?_ Al.out _ | refine IsS100.far ?_ Ak.out _) | exact HI0.out), yw HB, by repeat (first | (with_reducible first | exact HK.out | apply KeepBut.set_ | apply keep_drewN | apply keep_drew | apply keep_alloc | refine keep_far ?_ Bc.out _ | refine keep_far ?_ Bb.out _) | exact HK.out)⟩
     rw [if_neg Hi] at H
     exact absurd H (by simp)
    rw [if_neg Hk] at H
    exact absurd H (by simp)
   rw [if_neg Eq] at H
   have Ep : (Au == 2) = false := beq_eq_false_iff_ne.mpr Eq
   have Eo : (Au != 2) = true := bne_iff_ne.mpr Eq
   by_cases En : Au = 3
   ·rw [if_pos En] at H
    have Em : (Au == 3) = true := beq_iff_eq.mpr En
    have El : (Au != 3) = false := bne_eq_false_iff_eq.mpr En
    clear En
    obtain ⟨Dj, C3⟩ : ∃ y_ : List (S45), y_ = (([] : List (S45))) := ⟨_, rfl⟩
    replace H : (spec_l03Disk.l1 k1 0 s0_0 Ay Ax Dj) = some (r1, r2, r3) := zrw C3 H
    have Ny349 := Aside0.mk C3
    clear C3
    have H' := Aside0.mk H
    clear H
    go_wp2_with (first | ((with_reducible refine gate_callee (f := 56) rfl ?_); refine zG (some 11) Try.func56 #[.pointer (some ⟨g, 0, none⟩), .int .i64 6] ?_; (with_reducible refine (spec_l01Below.calls g s0_0 Ap Ao 6 Cb Ba Az w0 _ ?side1 ?side2 A7.out).mono ?_); (case side1 => exact yF HI0); (case side2 => exact yw HB); rintro e w97 ⟨rfl, hi, hb, hk⟩; refine ⟨_, rfl, ?_⟩; replace Ab := Aside0.mk (Kd.R_mono (Kd.R_keep (IsS100.apart (show IsS100 w0 _ g s0_0 Ap Ao from yF HI0) (zo Ab.out) (by decide)) hk (fun _ h => h.2)) (fun _ h => h.1)); replace Ad := Aside0.mk (KeepBut.blk hk (g' := Ah) (o := .cells #[.slice none 0 0] 29 (0, 0)) (zk Ad) Ag.out (by simp)); replace Ac := Aside0.mk (KeepBut.blk hk (g' := Ai) (o := .cells #[Aj] 29 (0, 0)) (zk Ac) Af.out (by simp)); replace HK := zKt HK hk; replace HB := Aside0.mk (hb); replace HI0 := Aside0.mk (hi); clear hi hb hk; have hnb98 := Aq.out; have hnc98 := Ar.out; have hnb99 := Af.out; have hnc99 := Ak.out; obtain ⟨Fm, Fk⟩ := zc1 Ac; obtain ⟨E6, Ek, Hb⟩ := Kd.R_slice Ab.out; subst Hb) | ((with_reducible refine gate_callee (f := 56) rfl ?_); refine zG (some 39) Try.func56 #[.pointer (some ⟨g, 0, none⟩), .int .i64 (Aa.length : Int)] ?_; (with_reducible refine (spec_l01Below.calls g s0_0 Ba Az (Aa.length : Int) Ae Bj Bi w0 _ ?side1 ?side2 F1.out).mono ?_); (case side1 => exact yF HI0); (case side2 => exact yw HB); rintro e w102 ⟨rfl, hi, hb, hk⟩; refine ⟨_, rfl, ?_⟩; replace Ab := Aside0.mk (Kd.R_mono (Kd.R_keep (IsS100.apart (show IsS100 w0 _ g s0_0 Ba Az from yF HI0) (zo Ab.out) (by decide)) hk (fun _ h => h.2)) (fun _ h => h.1)); replace Ad := Aside0.mk (KeepBut.blk hk (g' := Ah) (o := .cells #[.slice none 0 0] 29 (0, 0)) (zk Ad) Ag.out (by simp)); replace Ac := Aside0.mk (KeepBut.blk hk (g' := Ai) (o := .cells #[.slice E6 Aa.length Ek] 29 (0, 0)) (zk Ac) Af.out (by simp)); replace HK := zKt HK hk; replace HB := Aside0.mk (hb); replace HI0 := Aside0.mk (hi); clear hi hb hk) | ((with_reducible refine gate_callee (f := 56) rfl ?_); refine zG (some 41) Try.func56 #[.pointer (some ⟨g, 0, none⟩), .int .i64 40] ?_; (with_reducible refine (spec_l01Below.calls g s0_0 Bj Bi 40 Au Ay Ax w0 _ ?side1 ?side2 F0.out).mono ?_); (case side1 => exact yF HI0); (case side2 => exact yw HB); rintro e w103 ⟨rfl, hi, hb, hk⟩; refine ⟨_, rfl, ?_⟩; replace Ab := Aside0.mk (Kd.R_mono (Kd.R_keep (IsS100.apart (show IsS100 w0 _ g s0_0 Bj Bi from yF HI0) (zo Ab.out) (by decide)) hk (fun _ h => h.2)) (fun _ h => h.1)); replace Ad := Aside0.mk (KeepBut.blk hk (g' := Ah) (o := .cells #[.slice none 0 0] 29 (0, 0)) (zk Ad) Ag.out (by simp)); replace Ac := Aside0.mk (KeepBut.blk hk (g' := Ai) (o := .cells #[.slice E6 Aa.length Ek] 29 (0, 0)) (zk Ac) Af.out (by simp)); replace HK := zKt HK hk; replace HB := Aside0.mk (hb); replace HI0 := Aside0.mk (hi); clear hi hb hk) | ((with_reducible refine gate_dst (N := 84) rfl ?_); refine Kd.R_lit k45 _ 45 ?hg (N := 84) ?hd (xs := ([] : List (S45))) (inner := []) (ok := fun _ => True) (okp := fun _ => True) ?hr ?hp (fun _ hk => hk) trivial (Below.refl _ _) (Nat.le_refl _) (by simp) ?_; (case hd => rfl); (case hg => rfl); (case hr => first | (go_simp; done) | (go_simp; rfl)); (case hp => exact (Reps.none _ _)); intro v350 w104 Cc hb hg_ hnew_; clear hg_ hnew_; (first | rw [← Ny349.out] at Cc | (simp only [Int.reduceToNat] at Cc; rw [← Ny349.out] at Cc)); have E0 := Aside0.mk (Kd.R_lower (Kd.R_new' Cc (Kd.R_lt (zo Ab.out))) (zKs HK)); replace Ab := Aside0.mk (Kd.R_elder' (zo Ab.out) (Kd.R_base Cc) hb); replace Ad := zb Ad hb; replace Ac := zb Ac hb; replace HK := zKt HK (KeepBut.of_below hb g none); replace HB := ys HB hb; replace HI0 := Aside0.mk (IsS100.below (yF HI0) hb); clear hb Cc; obtain ⟨E5, Ej, Ha⟩ := Kd.R_slice E0.out; subst Ha; obtain ⟨Fl, Fj⟩ := zc1 Ac))
    go_loopg [7] k1 (fun kq v7 w' => ∃ (B0 : Int) (Bh : Int) (Bg : Int) (As : List (S45)) (Aj : Value), v7 = .int .i64 B0 ∧ Aside0 (spec_l03Disk.l1 kq B0 s0_0 Bh Bg As = some (r1, r2, r3)) ∧ Aside0 (kq ≤ k1) ∧ Aside0 (Kd.R k45 45 w' w.heap.size (fun _ => True) Aj As) ∧ Aside0 (w'.heap[Ah]? = some (.cells #[(.slice none 0 0)] 29 (0, 0))) ∧ Aside0 (w'.heap[Ai]? = some (.cells #[Aj] 29 (0, 0))) ∧ Aside0 (IsS100 w0 w' g s0_0 Bh Bg) ∧ Aside0 (KeepBut w w' g none) ∧ Aside0 (Below w0.heap.size w0 w'))
    case atStart => exact ⟨(0), (Ay), (Ax), (Dj), (.slice E5 Dj.length Ej), zf, H', ⟨Nat.le_refl _⟩, ⟨zo (Kd.R_mono (Kd.R_far (p := ⟨Ai, 0, none⟩) (Kd.R_types E0.out Ac.out (by decide)) (fun _ hk => hk.2) (.slice E5 Dj.length Ej)) (fun _ hk => trivial))⟩, ⟨zkf Ad⟩, ⟨zj Ac⟩, ⟨by repeat (first | (with_reducible first | exact HI0.out | apply IsS100.alloc | apply IsS100.drewN | apply IsS100.drew | apply IsS100.set_1 | apply IsS100.set_2 | refine IsS100.far ?_ Al.out _ | refine IsS100.far ?_ Ak.out _) | exact HI0.out)⟩, ⟨by repeat (first | (with_reducible first | exact HK.out | apply KeepBut.set_ | apply keep_drewN | apply keep_drew | apply keep_alloc | refine keep_far ?_ Bc.out _ | refine keep_far ?_ Bb.out _) | exact HK.out)⟩, ⟨yw HB⟩⟩
    case round =>
     clear H'
     try clear p2
     try clear c3
     try clear p3
     try clear q3
     try clear hx3
     try clear hf3
     try clear c5
     try clear c6
     try clear c7
     try clear p7
     try clear q7
     try clear hx7
     try clear hf7
     try clear c8
     try clear c9
     try clear p33
     try clear q33
     try clear hx33
     try clear Ex
     try clear Ew
     try clear Eu
     try clear Hr
     try clear Hq
     try clear c38
     try clear F8
     try clear F6
     try clear hx38
     try clear hf38
     try clear c51
     try clear c54
     try clear Et
     try clear Es
     try clear Er
     try clear Hp
     try clear Ho
     try clear Hn
     try clear Hm
     try clear Hl
     try clear c61
     try clear c62
     try clear c72
     try clear Eq
     try clear Ep
     try clear Eo
     try clear Hk
     try clear Hj
     try clear Hi
     try clear Hh
     try clear c78
     try clear F7
     try clear F5
     try clear hx78
     try clear hf78
     try clear c79
     try clear c80
     try clear c81
     try clear c83
     try clear c91
     try clear c94
     try clear En
     try clear Em
     try clear El
     try clear c98
     try clear c99
     try clear Fm
     try clear Fl
     try clear Gp
     try clear Gn
     try clear Gm
     try clear Gl
     try clear Gk
     try clear Gj
     try clear Gi
     try clear Gh
     try clear Fk
     try clear Fj
     try clear Gg
     try clear Gf
     try clear Ge
     try clear Gd
     try clear Gc
     try clear Gb
     try clear Ga
     try clear F9
     try clear Bz
     try clear Bx
     try clear Bw
     try clear Cf
     try clear Ce
     try clear Cd
     try clear Fs
     try clear Fr
     try clear Fq
     try clear Fp
     try clear Fo
     try clear Fn
     try clear D2
     try clear F8
     try clear F7
     try clear D1
     try clear F6
     try clear F5
     obtain ⟨B0, Bh, Bg, As, Aj, rfl, HA, Is, Ab, Ad, Ac, HI0, HK, HB⟩ := hrel
     cases gk with
     | zero => exact absurd HA.out (by simp [spec_l03Disk.l1])
     | succ k2 =>
      have H := HA.out
      clear HA
      simp only [spec_l03Disk.l1] at H
      replace H := Option.bind_eq_some_iff.mp H
      obtain ⟨⟨Do, Cw, Cv⟩, Fa, H⟩ := H
      replace H : (if B0 < (wrap64 (30 + Do)) then ((spec_Decimal.f k2 (wrap64 (100 + B0))).bind fun B8 => (if 1 + B8.size ≤ 9223372036854775807 then (if As.length < 3518437208883 then (spec_l03Disk.l1 k2 (wrap64 (B0 + 1)) s0_0 Cw Cv (As ++ [(⟨(⟨#[102]⟩ : ByteArray) ++ B8, (⟨#[]⟩ : ByteArray), 0⟩ : S45)])) else (none)) else (none))) else (some (As, Cw, Cv))) = some (r1, r2, r3) := H
      have H8 := Aside0.mk Fa
      clear Fa
      by_cases Cx : B0 < (wrap64 (30 + Do))
      ·rw [if_pos Cx] at H
       have Fy := decide_eq_true Cx
       clear Cx
       replace H := Option.bind_eq_some_iff.mp H
       obtain ⟨B8, E9, H⟩ := H
       have D7 := Aside0.mk E9
       clear E9
       by_cases De : 1 + B8.size ≤ 9223372036854775807
       ·rw [if_pos De] at H
        have c111b0 := eq_true De
        have c111b1 := decide_eq_true De
        try have c111b2 : (9223372036854775807 < 1 + B8.size) = False := eq_false (Nat.not_lt.2 De)
        by_cases D5 : As.length < 3518437208883
        ·rw [if_pos D5] at H
         have LMc112 := Aside0.mk D5
         clear D5
         obtain ⟨Di, C2⟩ : ∃ y_ : List (S45), y_ = (As ++ [(⟨(⟨#[102]⟩ : ByteArray) ++ B8, (⟨#[]⟩ : ByteArray), 0⟩ : S45)]) := ⟨_, rfl⟩
         replace H : (spec_l03Disk.l1 k2 (wrap64 (B0 + 1)) s0_0 Cw Cv Di) = some (r1, r2, r3) := zrw C2 H
         have Ny356 := Aside0.mk C2
         clear C2
         have H' := Aside0.mk H
         clear H
         try go_wp2_with (first | ((with_reducible refine gate_callee (f := 56) rfl ?_); refine zG (some 88) Try.func56 #[.pointer (some ⟨g, 0, none⟩), .int .i64 2] ?_; (with_reducible refine (spec_l01Below.calls g s0_0 Bh Bg 2 Do Cw Cv w0 _ ?side1 ?side2 H8.out).mono ?_); (case side1 => exact yF HI0); (case side2 => exact yw HB); rintro e Ie ⟨rfl, hi, hb, hk⟩; refine ⟨_, rfl, ?_⟩; replace Ab := Aside0.mk (Kd.R_mono (Kd.R_keep (IsS100.apart (show IsS100 w0 _ g s0_0 Bh Bg from yF HI0) (zo Ab.out) (by decide)) hk (fun _ h => h.2)) (fun _ h => h.1)); replace Ad := Aside0.mk (KeepBut.blk hk (g' := Ah) (o := .cells #[.slice none 0 0] 29 (0, 0)) (zk Ad) Ag.out (by simp)); replace Ac := Aside0.mk (KeepBut.blk hk (g' := Ai) (o := .cells #[Aj] 29 (0, 0)) (zk Ac) Af.out (by simp)); replace HK := zKt HK hk; replace HB := Aside0.mk (hb); replace HI0 := Aside0.mk (hi); clear hi hb hk))
         replace Ab := zd3 Ab
         replace Ad := zd1 Ad
         replace Ac := zd1 Ac
         replace HI0 := Aside0.mk (IsS100.drew HI0.out)
         replace HK := Aside0.mk (keep_drew HK.out)
         replace HB := zd2 HB
         refine start_ (n := 11) (S := fun w' => w'.cell? ⟨Ai, 0, none⟩ = some (Aj)) (ds := [10]) q15_31 (by kernel_rfl) rfl rfl (zv Ac) (fun hHeld => ?_); refine with_tabW spec_l03Disk.tab22 spec_l03Disk.bits22 (fun HT_ HW_ => ?_)
         generalize Ie.drew = w114 at Ab Ad Ac HI0 HK HB hHeld ⊢
         refine zP 0 (some 93) q15_32 HT_ ?_
         refine zP 2 (some 95) q15_33 HT_ ?_
         refine zP 3 (some 96) q15_53 HT_ ?_
         refine zT 1 (some 94) q15_54 HT_ HW_ hHeld ?_
         refine one_ (i := 4) (N := some 97) q15_36 rfl rfl (one_of HT_.out (by kernel_rfl)) (by decide) (fun K hK => ?_)
         refine zH Try.func84 #[.int .i64 (wrap64 (100 + B0))] ?_
         with_reducible refine (spec_Decimal.calls k2 (wrap64 (100 + B0)) B8 _ D7.out).mono ?_
         rintro e w115 ⟨rfl, hb⟩
         refine ⟨_, rfl, ?_⟩
         replace Ab := zy Ab hb
         replace Ad := zb Ad hb
         replace Ac := zb Ac hb
         replace HK := zKt HK (KeepBut.of_below hb g none)
         replace HB := ys HB hb
         replace HI0 := Aside0.mk (IsS100.below (yF HI0) hb)
         (try clear hb)
         (try clear hb2)
         (try clear hk)
         (try clear hi)
         refine hK.out _ _ (zv Ac) (fun hHeld => ?_)
         clear hK K
         refine zN ?_
         refine zP 5 (some 98) q15_37 HT_ ?_
         refine zP 6 (some 99) q15_38 HT_ ?_
         refine one_ (i := 7) (N := some 100) q15_39 rfl rfl (one_of HT_.out (by kernel_rfl)) (by decide) (fun K hK => ?_)
         refine value_ (w1 := ?_) (v := ?_) (by rfl) rfl ?_ ?_
         rotate_left 2
         ·go_simp
          constructor
          ·rfl
          rfl
         refine hK.out _ _ (zva Ac) (fun hHeld => ?_)
         clear hK K
         refine zN ?_
         refine one_ (i := 8) (N := some 101) q15_40 rfl rfl (one_of HT_.out (by kernel_rfl)) (by decide) (fun K hK => ?_)
         refine Kd.R_append_step k45 w.heap.size (by rfl) (.tmp 94) (.tmp 100) 27 45 (.agg #[(.string ⟨#[]⟩), (.string ⟨#[]⟩), (.int .i64 0)]) 40 rfl Try.underlying27 info45 rfl (by decide) (by omega) Aj As (⟨(⟨#[102]⟩ : ByteArray) ++ B8, (⟨#[]⟩ : ByteArray), 0⟩ : S45) [.string ((⟨#[102]⟩ : ByteArray) ++ B8), .string (⟨#[]⟩ : ByteArray), .int .i64 0] (fun _ => True) (fun _ => False) rfl rfl ?aP (fun _ hk => hk.elim) ?aF ?aO (Below.refl _ _) ?aS ?aL ?_
         (case aP => exact k45_mkM _ _ _ (⟨(⟨#[102]⟩ : ByteArray) ++ B8, (⟨#[]⟩ : ByteArray), 0⟩ : S45))
         (case aF => exact (fun _ _ => trivial))
         (case aO => exact (zo Ab.out))
         (case aS => exact (zKs HK))
         (case aL => have := LMc112.out; omega)
         intro v357 Id ho hb hg hat
         rw [← Ny356.out] at ho
         replace Ad := zbg Ad hg Ab
         replace Ac := zbg Ac hg Ab
         replace HB := Aside0.mk (below_weaken (yw HB) HL.out hb)
         replace HI0 := Aside0.mk (IsS100.grown (yF HI0) hg (IsS100.own_ne HI0.out Ab.out (by decide)))
         replace HK := Aside0.mk (KeepBut.trans (by repeat (first | (with_reducible first | exact HK.out | apply KeepBut.set_ | apply keep_drewN | apply keep_drew | apply keep_alloc | refine keep_far ?_ Bc.out _ | refine keep_far ?_ Bb.out _) | exact HK.out)) (KeepBut.of_grown hg g) (Kd.R_base2 Ab.out))
         have Ez := Aside0.mk (ho)
         clear Ab
         clear ho hb hg hat
         obtain ⟨E4, Ei, Eg⟩ := Kd.R_slice Ez.out
         (first | subst Eg | (injection Eg with f1_ f2_ f3_; have f4_ := f1_.symm; have f5_ := f3_.symm; clear f1_ f2_ f3_; subst f4_; subst f5_))
         refine hK.out _ _ (zv Ac) (fun hHeld => ?_)
         clear hK K
         refine zN ?_
         refine zP 9 (some 102) q15_41 HT_ ?_
         refine last_ (i := 10) (N := none) q15_42 rfl rfl (one_of HT_.out (by kernel_rfl)) (by decide) (fun K hK => ?_)
         have hs118 : Id.cell? ⟨Ai, 0, none⟩ = some (Aj) := zv Ac
         have hfs118 := blk_frozen Ac.out 0
         have hns118_0 := Ar.out
         have hms118_0 := Aq.out
         refine skip_ (w1 := ?_) (by rfl) rfl ?_ ?_
         rotate_left
         ·go_simp
          rfl
         refine hK.out _ _ ?_
         clear hK K
         refine done_ (done_of HT_.out (by kernel_rfl)) ?_
         try go_wp2
         go_roundg k2
         case measure => have := Ia.out; have := Is.out; omega
         case rel => exact ⟨(wrap64 (B0 + 1)), (Cw), (Cv), (Di), (.slice E4 Di.length Ei), zf, H', ⟨by have := Ia.out; have := Is.out; omega⟩, ⟨zo (Kd.R_mono (Kd.R_far (p := ⟨Ai, 0, none⟩) (Kd.R_types Ez.out Ac.out (by decide)) (fun _ hk => hk.2) (.slice E4 Di.length Ei)) (fun _ hk => trivial))⟩, ⟨zkf Ad⟩, ⟨zj Ac⟩, ⟨by repeat (first | (with_reducible first | exact HI0.out | apply IsS100.alloc | apply IsS100.drewN | apply IsS100.drew | apply IsS100.set_1 | apply IsS100.set_2 | refine IsS100.far ?_ Al.out _ | refine IsS100.far ?_ Ak.out _) | exact HI0.out)⟩, ⟨by repeat (first | (with_reducible first | exact HK.out | apply KeepBut.set_ | apply keep_drewN | apply keep_drew | apply keep_alloc | refine keep_far ?_ Bc.out _ | refine keep_far ?_ Bb.out _) | exact HK.out)⟩, ⟨yw HB⟩⟩
        rw [if_neg D5] at H
        exact absurd H (by simp)
       rw [if_neg De] at H
       exact absurd H (by simp)
      rw [if_neg Cx] at H
      have Fy := decide_eq_false Cx
      clear Cx
      simp only [Option.some.injEq, Prod.mk.injEq] at H
      obtain ⟨rfl, rfl, rfl⟩ := H
      go_wp2_with (first | ((with_reducible refine gate_callee (f := 56) rfl ?_); refine zG (some 88) Try.func56 #[.pointer (some ⟨g, 0, none⟩), .int .i64 2] ?_; (with_reducible refine (spec_l01Below.calls g s0_0 Bh Bg 2 Do Cw Cv w0 _ ?side1 ?side2 H8.out).mono ?_); (case side1 => exact yF HI0); (case side2 => exact yw HB); rintro e w119 ⟨rfl, hi, hb, hk⟩; refine ⟨_, rfl, ?_⟩; replace Ab := Aside0.mk (Kd.R_mono (Kd.R_keep (IsS100.apart (show IsS100 w0 _ g s0_0 Bh Bg from yF HI0) (zo Ab.out) (by decide)) hk (fun _ h => h.2)) (fun _ h => h.1)); replace Ad := Aside0.mk (KeepBut.blk hk (g' := Ah) (o := .cells #[.slice none 0 0] 29 (0, 0)) (zk Ad) Ag.out (by simp)); replace Ac := Aside0.mk (KeepBut.blk hk (g' := Ai) (o := .cells #[Aj] 29 (0, 0)) (zk Ac) Af.out (by simp)); replace HK := zKt HK hk; replace HB := Aside0.mk (hb); replace HI0 := Aside0.mk (hi); clear hi hb hk; have hnb120 := Aq.out; have hnc120 := Ar.out; have hnb121 := Af.out; have hnc121 := Ak.out; obtain ⟨_, _⟩ := zc1 Ac; obtain ⟨E3, Eh, G9⟩ := Kd.R_slice Ab.out; subst G9; have hnb124 := Ag.out; have hnc124 := Al.out; obtain ⟨_, _⟩ := zc1 Ad))
      refine bodyPost_ret (results_cell_row rfl _ _ Ah 29 #[.slice E3 As.length Eh] (0, 0) _ rfl (zj Ad) Try.underlying29 rfl (by kernel_rfl)) rfl ?_
      exact ⟨_, ze, zo (Kd.R_mono (Kd.R_far (p := ⟨Ah, 0, none⟩) (Kd.R_types Ab.out Ad.out (by decide)) (fun _ hk => hk.2) (.slice E3 As.length Eh)) (fun _ hk => trivial)), by repeat (first | (with_reducible first | exact HI0.out | apply IsS100.alloc | apply IsS100.drewN | apply IsS100.drew | apply IsS100.set_1 | apply IsS100.set_2 | refine IsS100.far ?_ Al.out _ | refine IsS100.far ?_ Ak.out _) | exact HI0.out), yw HB, by repeat (first | (with_reducible first | exact HK.out | apply KeepBut.set_ | apply keep_drewN | apply keep_drew | apply keep_alloc | refine keep_far ?_ Bc.out _ | refine keep_far ?_ Bb.out _) | exact HK.out)⟩
   rw [if_neg En] at H
   have Em : (Au == 3) = false := beq_eq_false_iff_ne.mpr En
   have El : (Au != 3) = true := bne_iff_ne.mpr En
   by_cases Cm : Au = 4
   ·rw [if_pos Cm] at H
    have Fx : (Au == 4) = true := beq_iff_eq.mpr Cm
    have Fw : (Au != 4) = false := bne_eq_false_iff_eq.mpr Cm
    clear Cm
    replace H := Option.bind_eq_some_iff.mp H
    obtain ⟨⟨Dn, Dm, Dl⟩, E8, H⟩ := H
    replace H : ((spec_l01Long.f k1 (wrap64 (19999 + Dn)) 65).bind fun Bn => (if 0 ≤ Ae then (if Ae < (Aa.length : Int) then (some ((Aa.set (Ae : Int).toNat (⟨(rd_T45 Aa Ae).f0, Bn, (rd_T45 Aa Ae).f2⟩ : S45)), Dm, Dl)) else (none)) else (none))) = some (r1, r2, r3) := H
    have Ir := Aside0.mk E8
    clear E8
    replace H := Option.bind_eq_some_iff.mp H
    obtain ⟨Bn, E7, H⟩ := H
    have Iq := Aside0.mk E7
    clear E7
    by_cases D4 : 0 ≤ Ae
    ·rw [if_pos D4] at H
     have c129b0 := decide_eq_true D4
     clear D4
     by_cases D3 : Ae < (Aa.length : Int)
     ·rw [if_pos D3] at H
      have c130b0 := decide_eq_true D3
      clear D3
      obtain ⟨F2, C1⟩ : ∃ y_ : List (S45), y_ = (Aa.set (Ae : Int).toNat (⟨(rd_T45 Aa Ae).f0, Bn, (rd_T45 Aa Ae).f2⟩ : S45)) := ⟨_, rfl⟩
      replace H : (some (F2, Dm, Dl)) = some (r1, r2, r3) := zrw C1 H
      have Ny363 := Aside0.mk C1
      clear C1
      simp only [Option.some.injEq, Prod.mk.injEq] at H
      obtain ⟨rfl, rfl, rfl⟩ := H
      try go_wp2_with (first | ((with_reducible refine gate_callee (f := 56) rfl ?_); refine zG (some 11) Try.func56 #[.pointer (some ⟨g, 0, none⟩), .int .i64 6] ?_; (with_reducible refine (spec_l01Below.calls g s0_0 Ap Ao 6 Cb Ba Az w0 _ ?side1 ?side2 A7.out).mono ?_); (case side1 => exact yF HI0); (case side2 => exact yw HB); rintro e w132 ⟨rfl, hi, hb, hk⟩; refine ⟨_, rfl, ?_⟩; replace Ab := Aside0.mk (Kd.R_mono (Kd.R_keep (IsS100.apart (show IsS100 w0 _ g s0_0 Ap Ao from yF HI0) (zo Ab.out) (by decide)) hk (fun _ h => h.2)) (fun _ h => h.1)); replace Ad := Aside0.mk (KeepBut.blk hk (g' := Ah) (o := .cells #[.slice none 0 0] 29 (0, 0)) (zk Ad) Ag.out (by simp)); replace Ac := Aside0.mk (KeepBut.blk hk (g' := Ai) (o := .cells #[Aj] 29 (0, 0)) (zk Ac) Af.out (by simp)); replace HK := zKt HK hk; replace HB := Aside0.mk (hb); replace HI0 := Aside0.mk (hi); clear hi hb hk; have hnb133 := Aq.out; have hnc133 := Ar.out; have hnb134 := Af.out; have hnc134 := Ak.out; obtain ⟨_, _⟩ := zc1 Ac; obtain ⟨Ct, Bs, G8⟩ := Kd.R_slice Ab.out; subst G8) | ((with_reducible refine gate_callee (f := 56) rfl ?_); refine zG (some 39) Try.func56 #[.pointer (some ⟨g, 0, none⟩), .int .i64 (Aa.length : Int)] ?_; (with_reducible refine (spec_l01Below.calls g s0_0 Ba Az (Aa.length : Int) Ae Bj Bi w0 _ ?side1 ?side2 F1.out).mono ?_); (case side1 => exact yF HI0); (case side2 => exact yw HB); rintro e w137 ⟨rfl, hi, hb, hk⟩; refine ⟨_, rfl, ?_⟩; replace Ab := Aside0.mk (Kd.R_mono (Kd.R_keep (IsS100.apart (show IsS100 w0 _ g s0_0 Ba Az from yF HI0) (zo Ab.out) (by decide)) hk (fun _ h => h.2)) (fun _ h => h.1)); replace Ad := Aside0.mk (KeepBut.blk hk (g' := Ah) (o := .cells #[.slice none 0 0] 29 (0, 0)) (zk Ad) Ag.out (by simp)); replace Ac := Aside0.mk (KeepBut.blk hk (g' := Ai) (o := .cells #[.slice Ct Aa.length Bs] 29 (0, 0)) (zk Ac) Af.out (by simp)); replace HK := zKt HK hk; replace HB := Aside0.mk (hb); replace HI0 := Aside0.mk (hi); clear hi hb hk) | ((with_reducible refine gate_callee (f := 56) rfl ?_); refine zG (some 41) Try.func56 #[.pointer (some ⟨g, 0, none⟩), .int .i64 40] ?_; (with_reducible refine (spec_l01Below.calls g s0_0 Bj Bi 40 Au Ay Ax w0 _ ?side1 ?side2 F0.out).mono ?_); (case side1 => exact yF HI0); (case side2 => exact yw HB); rintro e Ic ⟨rfl, hi, hb, hk⟩; refine ⟨_, rfl, ?_⟩; replace Ab := Aside0.mk (Kd.R_mono (Kd.R_keep (IsS100.apart (show IsS100 w0 _ g s0_0 Bj Bi from yF HI0) (zo Ab.out) (by decide)) hk (fun _ h => h.2)) (fun _ h => h.1)); replace Ad := Aside0.mk (KeepBut.blk hk (g' := Ah) (o := .cells #[.slice none 0 0] 29 (0, 0)) (zk Ad) Ag.out (by simp)); replace Ac := Aside0.mk (KeepBut.blk hk (g' := Ai) (o := .cells #[.slice Ct Aa.length Bs] 29 (0, 0)) (zk Ac) Af.out (by simp)); replace HK := zKt HK hk; replace HB := Aside0.mk (hb); replace HI0 := Aside0.mk (hi); clear hi hb hk))
      replace Ab := zd3 Ab
      replace Ad := zd1 Ad
      replace Ac := zd1 Ac
      replace HI0 := Aside0.mk (IsS100.drew HI0.out)
      replace HK := Aside0.mk (keep_drew HK.out)
      replace HB := zd2 HB
      refine start_ (n := 10) (S := fun w' => w'.cell? ⟨Ai, 0, none⟩ = some (.slice Ct Aa.length Bs)) (ds := [9]) q15_55 (by kernel_rfl) rfl rfl (zv Ac) (fun hHeld => ?_); refine with_tabW spec_l03Disk.tab24 spec_l03Disk.bits24 (fun HT_ HW_ => ?_)
      generalize Ic.drew = w139 at Ab Ad Ac HI0 HK HB hHeld ⊢
      refine zP 0 (some 105) q15_56 HT_ ?_
      refine zP 2 (some 107) q15_57 HT_ ?_
      refine zP 3 (some 108) q15_58 HT_ ?_
      refine zT 1 (some 106) q15_59 HT_ HW_ hHeld ?_
      refine one_ (i := 4) (N := some 109) q15_60 rfl rfl (one_of HT_.out (by kernel_rfl)) (by decide) (fun K hK => ?_)
      refine zH Try.func56 #[.pointer (some ⟨g, 0, none⟩), .int .i64 3] ?_
      with_reducible refine (spec_l01Below.calls g s0_0 Ay Ax 3 Dn Dm Dl w0 _ ?side1 ?side2 Ir.out).mono ?_
      (case side1 => exact yF HI0)
      (case side2 => exact yw HB)
      rintro e w140 ⟨rfl, hi, hb, hk⟩
      refine ⟨_, rfl, ?_⟩
      replace Ab := Aside0.mk (Kd.R_mono (Kd.R_keep (IsS100.apart (show IsS100 w0 _ g s0_0 Ay Ax from yF HI0) (zo Ab.out) (by decide)) hk (fun _ h => h.2)) (fun _ h => h.1))
      replace Ad := Aside0.mk (KeepBut.blk hk (g' := Ah) (o := .cells #[.slice none 0 0] 29 (0, 0)) (zk Ad) Ag.out (by simp))
      replace Ac := Aside0.mk (KeepBut.blk hk (g' := Ai) (o := .cells #[.slice Ct Aa.length Bs] 29 (0, 0)) (zk Ac) Af.out (by simp))
      replace HK := zKt HK hk
      replace HB := Aside0.mk (hb)
      replace HI0 := Aside0.mk (hi)
      (try clear hb)
      (try clear hb2)
      (try clear hk)
      (try clear hi)
      refine hK.out _ _ (zv Ac) (fun hHeld => ?_)
      clear hK K
      refine zN ?_
      refine zP 5 (some 110) q15_61 HT_ ?_
      refine one_ (i := 6) (N := some 111) q15_62 rfl rfl (one_of HT_.out (by kernel_rfl)) (by decide) (fun K hK => ?_)
      refine zH Try.func85 #[.int .i64 (wrap64 (19999 + Dn)), .int .u8 65] ?_
      with_reducible refine (spec_l01Long.calls k1 (wrap64 (19999 + Dn)) 65 Bn _ Iq.out).mono ?_
      rintro e Ib ⟨rfl, hb⟩
      refine ⟨_, rfl, ?_⟩
      replace Ab := zy Ab hb
      replace Ad := zb Ad hb
      replace Ac := zb Ac hb
      replace HK := zKt HK (KeepBut.of_below hb g none)
      replace HB := ys HB hb
      replace HI0 := Aside0.mk (IsS100.below (yF HI0) hb)
      (try clear hb)
      (try clear hb2)
      (try clear hk)
      (try clear hi)
      have Fi : 0 ≤ (Ae : Int) := of_decide_eq_true za
      have Fg : (Ae : Int) < ((Aa.length : Int) : Int) := of_decide_eq_true za
      obtain ⟨Bk, co131, Ef, Ee, gl131, cl131, HG131⟩ := Kd.R_form Ab.out (by omega)
      (first | cases Ef | (injection Ef with ea_ en_ ec_; (first | subst ea_ | (injection ea_ with ea_; subst ea_)); subst ec_; clear en_))
      have GB131 := Aside0.mk Ee
      have GG131 := Aside0.mk HG131
      clear Ee gl131 HG131
      obtain ⟨ce131, Fu, Ed, Ch, Cg⟩ := Kd.R_elem Ab.out z45 (Ae : Int) Fi Fg
      obtain rfl := k45_openM Ed
      have hx131_0 : World.cell? _ ⟨Bk, (Ae : Int).toNat * 3, none⟩ = some (.string ((rd_T45 Aa Ae).f0)) := Ch 0 _ rfl
      have hx131_1 : World.cell? _ ⟨Bk, (Ae : Int).toNat * 3 + 1, none⟩ = some (.string ((rd_T45 Aa Ae).f1)) := Ch 1 _ rfl
      have hx131_2 : World.cell? _ ⟨Bk, (Ae : Int).toNat * 3 + 2, none⟩ = some (.int .i64 ((rd_T45 Aa Ae).f2)) := Ch 2 _ rfl
      have hf131_0 : World.frozen? _ ⟨Bk, (Ae : Int).toNat * 3, none⟩ = false := Cg 0
      have hf131_1 : World.frozen? _ ⟨Bk, (Ae : Int).toNat * 3 + 1, none⟩ = false := Cg 1
      have hf131_2 : World.frozen? _ ⟨Bk, (Ae : Int).toNat * 3 + 2, none⟩ = false := Cg 2
      clear Fu Ch Cg Ed
      replace Fi := eq_true Fi
      replace Fg := eq_true Fg
      have HN0_go131 := Aside0.mk (show g ≠ Bk from by have h_ := IsS100.own_ne HI0.out Ab.out (by decide); intro e_; exact h_ (by rw [e_]; rfl))
      obtain ⟨ce142, Db, Ec, Dc, Ft⟩ := Kd.R_elem Ab.out z45 (Ae : Int) (of_decide_eq_true za) (by have h_ : (Ae : Int) < ((Aa.length : Int) : Int) := of_decide_eq_true za; first | exact h_ | (have e_ := (Kd.R_reads' Ab.out).1; omega) | simpa using h_)
      obtain rfl := k45_openM Ec
      have HP142 := (Kd.R_seg Ab.out (Ae : Int) (of_decide_eq_true za) (by have h_ : (Ae : Int) < ((Aa.length : Int) : Int) := of_decide_eq_true za; first | exact h_ | (have e_ := (Kd.R_reads' Ab.out).1; omega) | simpa using h_) (seg := [.string Bn]) (j := 1) Db Dc (show 2 ≤ 3 from by decide) (x' := (⟨(rd_T45 Aa Ae).f0, Bn, (rd_T45 Aa Ae).f2⟩ : S45)) (k45_mkM _ _ _ (⟨(rd_T45 Aa Ae).f0, Bn, (rd_T45 Aa Ae).f2⟩ : S45) ) (fun _ hk => hk)).1
      rw [← Ny363.out] at HP142
      have HQ142 := Aside0.mk HP142
      clear Db Dc Ft Ec HP142
      refine hK.out _ _ (zv Ac) (fun hHeld => ?_)
      clear hK K
      refine zN ?_
      refine zP 7 (some 112) q15_63 HT_ ?_
      refine zP 8 (some 113) q15_64 HT_ ?_
      refine last_ (i := 9) (N := none) q15_65 rfl rfl (one_of HT_.out (by kernel_rfl)) (by decide) (fun K hK => ?_)
      refine skip_ (w1 := ?_) (by rfl) rfl ?_ ?_
      rotate_left
      ·go_simp
       rfl
      refine hK.out _ _ ?_
      clear hK K
      refine done_ (done_of HT_.out (by kernel_rfl)) ?_
      obtain ⟨Cu, hq_⟩ : ∃ v_, Ib.setCell ⟨Bk, (Ae : Int).toNat * 3 + 1, none⟩ (.string Bn) = v_ := ⟨_, rfl⟩
      replace Ad : Aside0 (Cu.heap[Ah]? = some (.cells #[.slice none 0 0] 29 (0, 0))) := ⟨hq_ ▸ (by (with_reducible repeat (first | refine blk_drewN ?_ _ | refine blk_drew ?_ | refine blk_alloc ?_ _)); refine blk_far ?_ (by have h_ := Kd.R_ne Ab.out Ad.out (by decide); intro e_; exact h_ (by rw [e_]; rfl)) _; (with_reducible repeat (first | refine blk_drewN ?_ _ | refine blk_drew ?_ | refine blk_alloc ?_ _)); exact Ad.out)⟩
      replace Ac : Aside0 (Cu.heap[Ai]? = some (.cells #[.slice (some ⟨Bk, 0, none⟩) Aa.length Bs] 29 (0, 0))) := ⟨hq_ ▸ (by (with_reducible repeat (first | refine blk_drewN ?_ _ | refine blk_drew ?_ | refine blk_alloc ?_ _)); refine blk_far ?_ (by have h_ := Kd.R_ne Ab.out Ac.out (by decide); intro e_; exact h_ (by rw [e_]; rfl)) _; (with_reducible repeat (first | refine blk_drewN ?_ _ | refine blk_drew ?_ | refine blk_alloc ?_ _)); exact Ac.out)⟩
      replace Ab : Aside0 (Kd.R k45 45 Cu w.heap.size (fun _ => True) (.slice (some ⟨Bk, 0, none⟩) Aa.length Bs) F2) := ⟨hq_ ▸ (zo HQ142.out)⟩
      replace HK : Aside0 (KeepBut w Cu g none) := ⟨hq_ ▸ (by repeat (first | (with_reducible first | exact HK.out | apply KeepBut.set_ | apply keep_drewN | apply keep_drew | apply keep_alloc | refine keep_far ?_ GB131.out _ | refine keep_far ?_ Bc.out _ | refine keep_far ?_ Bb.out _) | exact HK.out))⟩
      replace HB : Aside0 (Below w0.heap.size w0 Cu) := ⟨hq_ ▸ (by repeat (first | (with_reducible first | exact HB.out | apply zD | apply zE | apply zF | refine below_set ?_ (Nat.le_trans HL.out GB131.out) | refine below_set ?_ (IsS100.ge HI0.out) | refine below_set ?_ Dh.out | refine below_set ?_ Dg.out) | exact HB.out))⟩
      replace HI0 : Aside0 (IsS100 w0 Cu g s0_0 Dm Dl) := ⟨hq_ ▸ (by repeat (first | (with_reducible first | exact HI0.out | apply IsS100.alloc | apply IsS100.drewN | apply IsS100.drew | apply IsS100.set_1 | apply IsS100.set_2 | refine IsS100.far ?_ HN0_go131.out _ | refine IsS100.far ?_ Al.out _ | refine IsS100.far ?_ Ak.out _) | exact HI0.out))⟩
      (try rw [hq_])
      clear hq_
      obtain ⟨_, _⟩ := zc1 Ac
      have hnb145 := Ag.out
      have hnc145 := Al.out
      obtain ⟨_, _⟩ := zc1 Ad
      try go_wp2
      refine bodyPost_ret (results_cell_row rfl _ _ Ah 29 #[.slice (some ⟨Bk, 0, none⟩) Aa.length Bs] (0, 0) _ rfl (zj Ad) Try.underlying29 rfl (by kernel_rfl)) rfl ?_
      exact ⟨_, ze, zo (Kd.R_mono (Kd.R_far (p := ⟨Ah, 0, none⟩) (Kd.R_types Ab.out Ad.out (by decide)) (fun _ hk => hk.2) (.slice (some ⟨Bk, 0, none⟩) Aa.length Bs)) (fun _ hk => trivial)), by repeat (first | (with_reducible first | exact HI0.out | apply IsS100.alloc | apply IsS100.drewN | apply IsS100.drew | apply IsS100.set_1 | apply IsS100.set_2 | refine IsS100.far ?_ Al.out _ | refine IsS100.far ?_ Ak.out _) | exact HI0.out), yw HB, by repeat (first | (with_reducible first | exact HK.out | apply KeepBut.set_ | apply keep_drewN | apply keep_drew | apply keep_alloc | refine keep_far ?_ Bc.out _ | refine keep_far ?_ Bb.out _) | exact HK.out)⟩
     rw [if_neg D3] at H
     exact absurd H (by simp)
    rw [if_neg D4] at H
    exact absurd H (by simp)
   rw [if_neg Cm] at H
   have Fx : (Au == 4) = false := beq_eq_false_iff_ne.mpr Cm
   have Fw : (Au != 4) = true := bne_iff_ne.mpr Cm
   simp only [Option.some.injEq, Prod.mk.injEq] at H
   obtain ⟨rfl, rfl, rfl⟩ := H
   go_wp2_with (first | ((with_reducible refine gate_callee (f := 56) rfl ?_); refine zG (some 11) Try.func56 #[.pointer (some ⟨g, 0, none⟩), .int .i64 6] ?_; (with_reducible refine (spec_l01Below.calls g s0_0 Ap Ao 6 Cb Ba Az w0 _ ?side1 ?side2 A7.out).mono ?_); (case side1 => exact yF HI0); (case side2 => exact yw HB); rintro e w147 ⟨rfl, hi, hb, hk⟩; refine ⟨_, rfl, ?_⟩; replace Ab := Aside0.mk (Kd.R_mono (Kd.R_keep (IsS100.apart (show IsS100 w0 _ g s0_0 Ap Ao from yF HI0) (zo Ab.out) (by decide)) hk (fun _ h => h.2)) (fun _ h => h.1)); replace Ad := Aside0.mk (KeepBut.blk hk (g' := Ah) (o := .cells #[.slice none 0 0] 29 (0, 0)) (zk Ad) Ag.out (by simp)); replace Ac := Aside0.mk (KeepBut.blk hk (g' := Ai) (o := .cells #[Aj] 29 (0, 0)) (zk Ac) Af.out (by simp)); replace HK := zKt HK hk; replace HB := Aside0.mk (hb); replace HI0 := Aside0.mk (hi); clear hi hb hk; have hnb148 := Aq.out; have hnc148 := Ar.out; have hnb149 := Af.out; have hnc149 := Ak.out; obtain ⟨_, _⟩ := zc1 Ac; obtain ⟨Cs, Cr, G7⟩ := Kd.R_slice Ab.out; subst G7) | ((with_reducible refine gate_callee (f := 56) rfl ?_); refine zG (some 39) Try.func56 #[.pointer (some ⟨g, 0, none⟩), .int .i64 (Aa.length : Int)] ?_; (with_reducible refine (spec_l01Below.calls g s0_0 Ba Az (Aa.length : Int) Ae Bj Bi w0 _ ?side1 ?side2 F1.out).mono ?_); (case side1 => exact yF HI0); (case side2 => exact yw HB); rintro e w152 ⟨rfl, hi, hb, hk⟩; refine ⟨_, rfl, ?_⟩; replace Ab := Aside0.mk (Kd.R_mono (Kd.R_keep (IsS100.apart (show IsS100 w0 _ g s0_0 Ba Az from yF HI0) (zo Ab.out) (by decide)) hk (fun _ h => h.2)) (fun _ h => h.1)); replace Ad := Aside0.mk (KeepBut.blk hk (g' := Ah) (o := .cells #[.slice none 0 0] 29 (0, 0)) (zk Ad) Ag.out (by simp)); replace Ac := Aside0.mk (KeepBut.blk hk (g' := Ai) (o := .cells #[.slice Cs Aa.length Cr] 29 (0, 0)) (zk Ac) Af.out (by simp)); replace HK := zKt HK hk; replace HB := Aside0.mk (hb); replace HI0 := Aside0.mk (hi); clear hi hb hk) | ((with_reducible refine gate_callee (f := 56) rfl ?_); refine zG (some 41) Try.func56 #[.pointer (some ⟨g, 0, none⟩), .int .i64 40] ?_; (with_reducible refine (spec_l01Below.calls g s0_0 Bj Bi 40 Au Ay Ax w0 _ ?side1 ?side2 F0.out).mono ?_); (case side1 => exact yF HI0); (case side2 => exact yw HB); rintro e w153 ⟨rfl, hi, hb, hk⟩; refine ⟨_, rfl, ?_⟩; replace Ab := Aside0.mk (Kd.R_mono (Kd.R_keep (IsS100.apart (show IsS100 w0 _ g s0_0 Bj Bi from yF HI0) (zo Ab.out) (by decide)) hk (fun _ h => h.2)) (fun _ h => h.1)); replace Ad := Aside0.mk (KeepBut.blk hk (g' := Ah) (o := .cells #[.slice none 0 0] 29 (0, 0)) (zk Ad) Ag.out (by simp)); replace Ac := Aside0.mk (KeepBut.blk hk (g' := Ai) (o := .cells #[.slice Cs Aa.length Cr] 29 (0, 0)) (zk Ac) Af.out (by simp)); replace HK := zKt HK hk; replace HB := Aside0.mk (hb); replace HI0 := Aside0.mk (hi); clear hi hb hk; obtain ⟨_, _⟩ := zc1 Ac; have hnb155 := Ag.out; have hnc155 := Al.out; obtain ⟨_, _⟩ := zc1 Ad))
   refine bodyPost_ret (results_cell_row rfl _ _ Ah 29 #[.slice Cs Aa.length Cr] (0, 0) _ rfl (zj Ad) Try.underlying29 rfl (by kernel_rfl)) rfl ?_
   exact ⟨_, ze, zo (Kd.R_mono (Kd.R_far (p := ⟨Ah, 0, none⟩) (Kd.R_types Ab.out Ad.out (by decide)) (fun _ hk => hk.2) (.slice Cs Aa.length Cr)) (fun _ hk => trivial)), by repeat (first | (with_reducible first | exact HI0.out | apply IsS100.alloc | apply IsS100.drewN | apply IsS100.drew | apply IsS100.set_1 | apply IsS100.set_2 | refine IsS100.far ?_ Al.out _ | refine IsS100.far ?_ Ak.out _) | exact HI0.out), yw HB, by repeat (first | (with_reducible first | exact HK.out | apply KeepBut.set_ | apply keep_drewN | apply keep_drew | apply keep_alloc | refine keep_far ?_ Bc.out _ | refine keep_far ?_ Bb.out _) | exact HK.out)⟩

end Go.Proofs.Ytdiecogmaiglaaa.PFnActs
