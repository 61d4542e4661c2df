import Derived.Test.YtdiecogmaiglaaaQFnExactDoActsx0
import Derived.Test.YtdiecogmaiglaaaQFnExactDoActsx4
namespace Go.Proofs.Ytdiecogmaiglaaa.PFnExactDoActs
open Go.RowKit Go.Proofs.YtdiecogmaiglaaaW.PrintWords Go.Proofs.YtdiecogmaiglaaaW.PrintLast Go.Proofs.YtdiecogmaiglaaaW.PrintMore
attribute [local go_sem] max2_int min2_int max_two min_two max_three min_three max_four min_four   -- for this text's walks alone
set_option linter.unusedVariables false
set_option linter.unusedSimpArgs false

/-! ### spec_DiskOk: function 13 -/
def spec_DiskOk.l0 : Nat → Int → List (S45) → Option (Bool)
 | 0, _, _ => none
 | k + 1, x3, x154000 => if x3 < (x154000.length : Int) then (if 0 ≤ x3 then ((spec_l03Name.f ((rd_T45 x154000 x3).f0)).bind fun t156 => (if t156 = true then (if (((rd_T45 x154000 x3).f1).size : Int) > 20000 then (some false) else ((spec_l01In.f ((rd_T45 x154000 x3).f2) 0 (((rd_T45 x154000 x3).f1).size : Int)).bind fun t157 => (if t157 = true then (if x3 > 0 then (if 0 ≤ (wrap64 (x3 - 1)) then (if (wrap64 (x3 - 1)) < (x154000.length : Int) then (if ((Op.bytesLess (((rd_T45 x154000 (wrap64 (x3 - 1))).f0).toList) (((rd_T45 x154000 x3).f0).toList)) = true) then (spec_DiskOk.l0 k (wrap64 (x3 + 1)) x154000) else (some false)) else (none)) else (none)) else (spec_DiskOk.l0 k (wrap64 (x3 + 1)) x154000)) else (some false)))) else (some false))) else (none)) else (some true)
def spec_DiskOk.f (k : Nat) (l0_0 : List (S45)) : Option (Bool) := if (l0_0.length : Int) > 30 then (some false) else (spec_DiskOk.l0 k 0 l0_0)
theorem spec_DiskOk.mono_l : ∀ k, (∀ y0 y1, LeO (spec_DiskOk.l0 k y0 y1) (spec_DiskOk.l0 (k + 1) y0 y1))
 | 0 => fun _ _ r h => by simp [spec_DiskOk.l0] at h
 | k + 1 => by
  have ih0 := spec_DiskOk.mono_l k
  intro y0 y1
  unfold spec_DiskOk.l0
  repeat' first
  | (with_reducible exact ih0 _ _)
  | (with_reducible exact LeO.refl _)
  | (with_reducible exact LeO.none _)
  | (with_reducible refine LeO.ite ?_ ?_)
  | (with_reducible refine LeO.bind ?_ (fun _ => ?_))
  | exact ih0 _ _
  | exact LeO.none _
  | refine LeO.ite ?_ ?_
  | refine LeO.bind ?_ (fun _ => ?_)
theorem spec_DiskOk.mono : ∀ a0 k, LeO (spec_DiskOk.f k a0) (spec_DiskOk.f (k + 1) a0) := by
 intro a0 k
 have ih0 := spec_DiskOk.mono_l k
 unfold spec_DiskOk.f
 repeat' first
   | (with_reducible exact ih0 _ _)
   | (with_reducible exact LeO.refl _)
   | (with_reducible exact LeO.none _)
   | (with_reducible refine LeO.ite ?_ ?_)
   | (with_reducible refine LeO.bind ?_ (fun _ => ?_))
   | exact ih0 _ _
   | exact LeO.none _
   | refine LeO.ite ?_ ?_
   | refine LeO.bind ?_ (fun _ => ?_)
def spec_DiskOk.T7 : Bool × List (List Nat × List Nat) := (true, [([], []), ([0], [0]), ([1], [1]), ([2], [2]), ([3, 2], [3]), ([4], [4]), ([5, 4], [4, 5]), ([6, 4], [4, 6]), ([7, 4], [4, 7]), ([4, 8], [4, 8]), ([9, 4], [9]), ([10], [10]), ([11, 10], [10, 11]), ([10], [10]), ([13, 10], [10, 13]), ([14, 10], [10, 14]), ([12, 15, 10, 10], [10, 12, 15]), ([16, 10], [10, 16]), ([10, 17], [10, 17]), ([18, 16], [18]), ([19], [19]), ([20, 19], [19, 20]), ([21, 19, 19], [19, 21]), ([22], [22]), ([23, 22], [22, 23]), ([22], [22]), ([25, 22], [22, 25]), ([24, 26, 22], [22, 24, 26]), ([27, 22], [22, 27]), ([28, 22], [22, 28]), ([22], [22]), ([30, 22], [22, 30]), ([29, 31, 22], [22, 29, 31]), ([22, 32, 19], [19, 22, 32]), ([19, 33], [19, 33])])
def spec_DiskOk.B7 : List Nat := [0, 1, 3, 7, 15, 31, 63, 127, 255, 511, 1023, 2047, 4095, 2047, 10239, 26623, 65535, 131071, 262143, 524287, 1048575, 2097151, 4194303, 8388607, 16777215, 8388607, 41943039, 134217727, 268435455, 536870911, 8388607, 1082130431, 4294967295, 8589934591, 17179869183]
theorem spec_DiskOk.tab7 : rtab .any (opsOf Try.f13 7) = spec_DiskOk.T7 := by kernel_rfl
theorem spec_DiskOk.bits7 : waitsOk spec_DiskOk.T7.2 spec_DiskOk.B7 = true := by kernel_rfl
abbrev q5_0 := #[o_,o_,o_,o_,o_,o_,o_,o_,o_,o_,o_,o_,o_,o_,o_,o_,o_,o_,o_,o_,o_,o_,o_,o_,o_,o_,o_,o_,o_,o_,o_,o_,o_,o_,o_]
abbrev q5_1 := #[i_,o_,o_,o_,o_,o_,o_,o_,o_,o_,o_,o_,o_,o_,o_,o_,o_,o_,o_,o_,o_,o_,o_,o_,o_,o_,o_,o_,o_,o_,o_,o_,o_,o_,o_]
abbrev q5_2 := #[i_,i_,o_,o_,o_,o_,o_,o_,o_,o_,o_,o_,o_,o_,o_,o_,o_,o_,o_,o_,o_,o_,o_,o_,o_,o_,o_,o_,o_,o_,o_,o_,o_,o_,o_]
abbrev q5_3 := #[i_,i_,i_,o_,o_,o_,o_,o_,o_,o_,o_,o_,o_,o_,o_,o_,o_,o_,o_,o_,o_,o_,o_,o_,o_,o_,o_,o_,o_,o_,o_,o_,o_,o_,o_]
abbrev q5_4 := #[i_,i_,i_,i_,o_,o_,o_,o_,o_,o_,o_,o_,o_,o_,o_,o_,o_,o_,o_,o_,o_,o_,o_,o_,o_,o_,o_,o_,o_,o_,o_,o_,o_,o_,o_]
abbrev q5_5 := #[i_,i_,i_,i_,i_,o_,o_,o_,o_,o_,o_,o_,o_,o_,o_,o_,o_,o_,o_,o_,o_,o_,o_,o_,o_,o_,o_,o_,o_,o_,o_,o_,o_,o_,o_]
abbrev q5_6 := #[i_,i_,i_,i_,i_,i_,o_,o_,o_,o_,o_,o_,o_,o_,o_,o_,o_,o_,o_,o_,o_,o_,o_,o_,o_,o_,o_,o_,o_,o_,o_,o_,o_,o_,o_]
abbrev q5_7 := #[i_,i_,i_,i_,i_,i_,i_,o_,o_,o_,o_,o_,o_,o_,o_,o_,o_,o_,o_,o_,o_,o_,o_,o_,o_,o_,o_,o_,o_,o_,o_,o_,o_,o_,o_]
abbrev q5_8 := #[i_,i_,i_,i_,i_,i_,i_,i_,o_,o_,o_,o_,o_,o_,o_,o_,o_,o_,o_,o_,o_,o_,o_,o_,o_,o_,o_,o_,o_,o_,o_,o_,o_,o_,o_]
abbrev q5_9 := #[i_,i_,i_,i_,i_,i_,i_,i_,i_,o_,o_,o_,o_,o_,o_,o_,o_,o_,o_,o_,o_,o_,o_,o_,o_,o_,o_,o_,o_,o_,o_,o_,o_,o_,o_]
abbrev q5_10 := #[i_,i_,i_,i_,i_,i_,i_,i_,i_,i_,o_,o_,o_,o_,o_,o_,o_,o_,o_,o_,o_,o_,o_,o_,o_,o_,o_,o_,o_,o_,o_,o_,o_,o_,o_]
abbrev q5_11 := #[i_,i_,i_,i_,i_,i_,i_,i_,i_,i_,i_,o_,o_,o_,o_,o_,o_,o_,o_,o_,o_,o_,o_,o_,o_,o_,o_,o_,o_,o_,o_,o_,o_,o_,o_]
abbrev q5_12 := #[i_,i_,i_,i_,i_,i_,i_,i_,i_,i_,i_,i_,o_,o_,o_,o_,o_,o_,o_,o_,o_,o_,o_,o_,o_,o_,o_,o_,o_,o_,o_,o_,o_,o_,o_]
abbrev q5_13 := #[i_,i_,i_,i_,i_,i_,i_,i_,i_,i_,i_,i_,i_,o_,o_,o_,o_,o_,o_,o_,o_,o_,o_,o_,o_,o_,o_,o_,o_,o_,o_,o_,o_,o_,o_]
abbrev q5_14 := #[i_,i_,i_,i_,i_,i_,i_,i_,i_,i_,i_,i_,i_,i_,o_,o_,o_,o_,o_,o_,o_,o_,o_,o_,o_,o_,o_,o_,o_,o_,o_,o_,o_,o_,o_]
abbrev q5_15 := #[i_,i_,i_,i_,i_,i_,i_,i_,i_,i_,i_,i_,i_,i_,i_,o_,o_,o_,o_,o_,o_,o_,o_,o_,o_,o_,o_,o_,o_,o_,o_,o_,o_,o_,o_]
abbrev q5_16 := #[i_,i_,i_,i_,i_,i_,i_,i_,i_,i_,i_,i_,i_,i_,i_,i_,o_,o_,o_,o_,o_,o_,o_,o_,o_,o_,o_,o_,o_,o_,o_,o_,o_,o_,o_]
abbrev q5_17 := #[i_,i_,i_,i_,i_,i_,i_,i_,i_,i_,i_,i_,i_,i_,i_,i_,i_,o_,o_,o_,o_,o_,o_,o_,o_,o_,o_,o_,o_,o_,o_,o_,o_,o_,o_]
abbrev q5_18 := #[i_,i_,i_,i_,i_,i_,i_,i_,i_,i_,i_,i_,i_,i_,i_,i_,i_,i_,o_,o_,o_,o_,o_,o_,o_,o_,o_,o_,o_,o_,o_,o_,o_,o_,o_]
abbrev q5_19 := #[i_,i_,i_,i_,i_,i_,i_,i_,i_,i_,i_,i_,i_,i_,i_,i_,i_,i_,i_,o_,o_,o_,o_,o_,o_,o_,o_,o_,o_,o_,o_,o_,o_,o_,o_]
abbrev q5_20 := #[i_,i_,i_,i_,i_,i_,i_,i_,i_,i_,i_,i_,i_,i_,i_,i_,i_,i_,i_,i_,o_,o_,o_,o_,o_,o_,o_,o_,o_,o_,o_,o_,o_,o_,o_]
abbrev q5_21 := #[i_,i_,i_,i_,i_,i_,i_,i_,i_,i_,i_,i_,i_,i_,i_,i_,i_,i_,i_,i_,i_,o_,o_,o_,o_,o_,o_,o_,o_,o_,o_,o_,o_,o_,o_]
abbrev q5_22 := #[i_,i_,i_,i_,i_,i_,i_,i_,i_,i_,i_,i_,i_,i_,i_,i_,i_,i_,i_,i_,i_,i_,o_,o_,o_,o_,o_,o_,o_,o_,o_,o_,o_,o_,o_]
abbrev q5_23 := #[i_,i_,i_,i_,i_,i_,i_,i_,i_,i_,i_,i_,i_,i_,i_,i_,i_,i_,i_,i_,i_,i_,i_,o_,o_,o_,o_,o_,o_,o_,o_,o_,o_,o_,o_]
abbrev q5_24 := #[i_,i_,i_,i_,i_,i_,i_,i_,i_,i_,i_,i_,i_,i_,i_,i_,i_,i_,i_,i_,i_,i_,i_,i_,o_,o_,o_,o_,o_,o_,o_,o_,o_,o_,o_]
abbrev q5_25 := #[i_,i_,i_,i_,i_,i_,i_,i_,i_,i_,i_,i_,i_,i_,i_,i_,i_,i_,i_,i_,i_,i_,i_,i_,i_,o_,o_,o_,o_,o_,o_,o_,o_,o_,o_]
abbrev q5_26 := #[i_,i_,i_,i_,i_,i_,i_,i_,i_,i_,i_,i_,i_,i_,i_,i_,i_,i_,i_,i_,i_,i_,i_,i_,i_,i_,o_,o_,o_,o_,o_,o_,o_,o_,o_]
abbrev q5_27 := #[i_,i_,i_,i_,i_,i_,i_,i_,i_,i_,i_,i_,i_,i_,i_,i_,i_,i_,i_,i_,i_,i_,i_,i_,i_,i_,i_,o_,o_,o_,o_,o_,o_,o_,o_]
abbrev q5_28 := #[i_,i_,i_,i_,i_,i_,i_,i_,i_,i_,i_,i_,i_,i_,i_,i_,i_,i_,i_,i_,i_,i_,i_,i_,i_,i_,i_,i_,o_,o_,o_,o_,o_,o_,o_]
abbrev q5_29 := #[i_,i_,i_,i_,i_,i_,i_,i_,i_,i_,i_,i_,i_,i_,i_,i_,i_,i_,i_,i_,i_,i_,i_,i_,i_,i_,i_,i_,i_,o_,o_,o_,o_,o_,o_]
abbrev q5_30 := #[i_,i_,i_,i_,i_,i_,i_,i_,i_,i_,i_,i_,i_,i_,i_,i_,i_,i_,i_,i_,i_,i_,i_,i_,i_,i_,i_,i_,i_,i_,o_,o_,o_,o_,o_]
abbrev q5_31 := #[i_,i_,i_,i_,i_,i_,i_,i_,i_,i_,i_,i_,i_,i_,i_,i_,i_,i_,i_,i_,i_,i_,i_,i_,i_,i_,i_,i_,i_,i_,i_,o_,o_,o_,o_]
abbrev q5_32 := #[i_,i_,i_,i_,i_,i_,i_,i_,i_,i_,i_,i_,i_,i_,i_,i_,i_,i_,i_,i_,i_,i_,i_,i_,i_,i_,i_,i_,i_,i_,i_,i_,o_,o_,o_]
abbrev q5_33 := #[i_,i_,i_,i_,i_,i_,i_,i_,i_,i_,i_,i_,i_,i_,i_,i_,i_,i_,i_,i_,i_,i_,i_,i_,i_,i_,i_,i_,i_,i_,i_,i_,i_,o_,o_]
abbrev q5_34 := #[i_,i_,i_,i_,i_,i_,i_,i_,i_,i_,i_,i_,i_,i_,i_,i_,i_,i_,i_,i_,i_,i_,i_,i_,i_,i_,i_,i_,i_,i_,i_,i_,i_,i_,o_]
abbrev q5_35 := #[i_,i_,i_,i_,i_,i_,i_,i_,i_,i_,i_,i_,i_,i_,i_,i_,i_,i_,i_,i_,i_,i_,i_,i_,i_,i_,i_,i_,i_,i_,i_,i_,i_,i_,i_]
abbrev q5_36 := #[i_,i_,i_,i_,i_,i_,i_,i_,i_,i_,i_,i_,o_,i_,o_,o_,o_,o_,o_,o_,o_,o_,o_,o_,o_,o_,o_,o_,o_,o_,o_,o_,o_,o_,o_]
abbrev q5_37 := #[i_,i_,i_,i_,i_,i_,i_,i_,i_,i_,i_,i_,i_,i_,i_,i_,i_,i_,i_,i_,i_,i_,i_,i_,o_,i_,o_,o_,o_,o_,o_,o_,o_,o_,o_]
abbrev q5_38 := #[i_,i_,i_,i_,i_,i_,i_,i_,i_,i_,i_,i_,i_,i_,i_,i_,i_,i_,i_,i_,i_,i_,i_,i_,o_,i_,i_,o_,o_,o_,o_,o_,o_,o_,o_]
abbrev q5_39 := #[i_,i_,i_,i_,i_,i_,i_,i_,i_,i_,i_,i_,i_,i_,i_,i_,i_,i_,i_,i_,i_,i_,i_,i_,o_,i_,i_,o_,o_,o_,i_,o_,o_,o_,o_]
abbrev q5_40 := #[i_,i_,i_,i_,i_,i_,i_,i_,i_,i_,i_,i_,i_,i_,i_,i_,i_,i_,i_,i_,i_,i_,i_,i_,i_,i_,i_,o_,o_,o_,i_,o_,o_,o_,o_]
abbrev q5_41 := #[i_,i_,i_,i_,i_,i_,i_,i_,i_,i_,i_,i_,i_,i_,i_,i_,i_,i_,i_,i_,i_,i_,i_,i_,i_,i_,i_,i_,o_,o_,i_,o_,o_,o_,o_]
abbrev q5_42 := #[i_,i_,i_,i_,i_,i_,i_,i_,i_,i_,i_,i_,i_,i_,i_,i_,i_,i_,i_,i_,i_,i_,i_,i_,i_,i_,i_,i_,i_,o_,i_,o_,o_,o_,o_]
set_option maxHeartbeats 8000000 in
set_option maxRecDepth 100000 in
theorem spec_DiskOk.calls (k : Nat) (A0_0 : Option Addr) (c0_0 : Nat) (l0_0 : List (S45)) (r : Bool) (w : World) (hr0_0 : Kd.C k45 w A0_0 l0_0.length l0_0) (hc0_0 : l0_0.length ≤ c0_0) (h : spec_DiskOk.f k l0_0 = some r) :
  Calls Try.prog 13 #[.agg #[.slice A0_0 l0_0.length c0_0]] w fun e w' => e = .returned (.bool r) ∧ Below w.heap.size w w' := by
 have hu29 := Try.underlying29
 have hu45 := Try.underlying45
 have HR0_0 := Aside0.mk hr0_0
 have HC0_0 := Aside0.mk hc0_0
 clear hr0_0 hc0_0
 have HB := Aside0.mk (Below.refl w.heap.size w)
 have H : (if (l0_0.length : Int) > 30 then (some false) else (spec_DiskOk.l0 k 0 l0_0)) = some r := h
 clear h
 by_cases c2 : (l0_0.length : Int) > 30
 ·rw [if_pos c2] at H
  have c2b0 : decide (30 < (l0_0.length : Int)) = true := decide_eq_true c2
  have c2b1 : decide (30 < l0_0.length) = true := decide_eq_true (by omega)
  clear c2
  obtain rfl := Option.some.inj H
  go_enter Try.func13, Try.ntmps13
  go_wp2_with (first | ((with_reducible refine gate_dst (N := 1) rfl ?_); (try (refine gate_guard (by rfl) ?_; dsimp only)); refine zx (N := 1) (cs := #[.slice A0_0 l0_0.length c0_0]) (t := 29) ?_; intro gb153 hg w3 hbox hb; have BK153 := Aside0.mk (hbox); have GW153 := zg HB hg; have GE153 := zg HB hg; replace HB := zs HB hb; clear hb hbox hg; obtain ⟨m4_0, n4_0⟩ := zc1 BK153))
  go_ret
  exact ⟨ze, zw HB⟩
 rw [if_neg c2] at H
 have c2b0 : decide (30 < (l0_0.length : Int)) = false := decide_eq_false c2
 have c2b1 : decide (30 < l0_0.length) = false := decide_eq_false (by omega)
 clear c2
 have H' := Aside0.mk H
 clear H
 go_enter Try.func13, Try.ntmps13
 go_wp2_with (first | ((with_reducible refine gate_dst (N := 1) rfl ?_); (try (refine gate_guard (by rfl) ?_; dsimp only)); refine zx (N := 1) (cs := #[.slice A0_0 l0_0.length c0_0]) (t := 29) ?_; intro gb153 hg w5 hbox hb; have BK153 := Aside0.mk (hbox); have GW153 := zg HB hg; have GE153 := zg HB hg; replace HB := zs HB hb; clear hb hbox hg; obtain ⟨m6_0, n6_0⟩ := zc1 BK153))
 go_loopg [3] k (fun kq v3 w' => ∃ (x3_1 : Int), v3 = .int .i64 x3_1 ∧ Aside0 (spec_DiskOk.l0 kq x3_1 l0_0 = some r) ∧ Aside0 (kq ≤ k) ∧ Aside0 (w'.heap[gb153]? = some (.cells #[(.slice A0_0 l0_0.length c0_0)] 29 (0, 0))) ∧ Aside0 (Below w.heap.size w w'))
 case atStart => exact ⟨(0), zf, H', ⟨Nat.le_refl _⟩, ⟨zkf BK153⟩, ⟨zw HB⟩⟩
 case round =>
  clear H'
  try clear c1
  try clear c2
  try clear c2b0
  try clear c2b1
  try clear p2
  try clear m4_0
  try clear m6_0
  try clear n4_0
  try clear n6_0
  obtain ⟨x3_1, rfl, HA, HK1, BK153, HB⟩ := hrel
  cases gk with
  | zero => exact absurd HA.out (by simp [spec_DiskOk.l0])
  | succ k1 =>
   have H := HA.out
   clear HA
   simp only [spec_DiskOk.l0] at H
   by_cases c7 : x3_1 < (l0_0.length : Int)
   ·rw [if_pos c7] at H
    have c7b0 := decide_eq_true c7
    clear c7
    by_cases c8 : 0 ≤ x3_1
    ·rw [if_pos c8] at H
     have c8b0 := decide_eq_true c8
     clear c8
     replace H := Option.bind_eq_some_iff.mp H
     obtain ⟨t156, A90, H⟩ := H
     have A9 := Aside0.mk A90
     clear A90
     by_cases c10 : t156 = true
     ·subst c10
      rw [if_pos rfl] at H
      by_cases c11 : (((rd_T45 l0_0 x3_1).f1).size : Int) > 20000
      ·rw [if_pos c11] at H
       have c11b0 : decide (20000 < (((rd_T45 l0_0 x3_1).f1).size : Int)) = true := decide_eq_true c11
       have c11b1 : decide (20000 < ((rd_T45 l0_0 x3_1).f1).size) = true := decide_eq_true (by omega)
       clear c11
       obtain rfl := Option.some.inj H
       obtain ⟨m12_0, n12_0⟩ := zc1 BK153
       have p154 : 0 ≤ (x3_1 : Int) := of_decide_eq_true za
       have q154 : x3_1 < (l0_0.length : Int) := of_decide_eq_true za
       obtain ⟨ad154, e154, hx154_0, hx154_1, hx154_2⟩ := at_T45 HR0_0.out x3_1 p154 q154
       cases e154
       replace hx154_0 := zU HB.out hx154_0
       replace hx154_1 := zU HB.out hx154_1
       replace hx154_2 := zU HB.out hx154_2
       replace p154 := eq_true p154
       replace q154 := eq_true q154
       try go_wp2_with (first | ((with_reducible refine gate_dst (N := 4) rfl ?_); (try (refine gate_guard (by rfl) ?_; dsimp only)); refine zx (N := 4) (cs := #[.string (⟨#[]⟩ : ByteArray), .string (⟨#[]⟩ : ByteArray), .int .i64 0]) (t := 45) ?_; intro gb155 hg w13 hbox hb; have BK155 := Aside0.mk (hbox); have GW155 := zg HB hg; have GE155 := zg HB hg; replace HB := zs HB hb; have NB153_155 := zl BK153 hg; have NB155_153 := zr BK153 hg; replace BK153 := zb BK153 hb; clear hb hbox hg; have hnb14 := NB155_153.out; have hnc14 := NB153_155.out; obtain ⟨m15_0, m15_1, m15_2, n15_0, n15_1, n15_2⟩ := zc3 BK155))
       have n0_ : Aside0 ((((w13.setCell ⟨gb155, 0, none⟩ (.string ((rd_T45 l0_0 x3_1).f0))).setCell ⟨gb155, 1, none⟩ (.string ((rd_T45 l0_0 x3_1).f1))).setCell ⟨gb155, 2, none⟩ (.int .i64 ((rd_T45 l0_0 x3_1).f2))).heap[gb153]? = some (.cells #[.slice (some ad154) l0_0.length c0_0] 29 (0, 0))) := ⟨zkf BK153⟩
       have n1_ : Aside0 ((((w13.setCell ⟨gb155, 0, none⟩ (.string ((rd_T45 l0_0 x3_1).f0))).setCell ⟨gb155, 1, none⟩ (.string ((rd_T45 l0_0 x3_1).f1))).setCell ⟨gb155, 2, none⟩ (.int .i64 ((rd_T45 l0_0 x3_1).f2))).heap[gb155]? = some (.cells #[.string ((rd_T45 l0_0 x3_1).f0), .string ((rd_T45 l0_0 x3_1).f1), .int .i64 ((rd_T45 l0_0 x3_1).f2)] 45 (0, 0))) := ⟨by (with_reducible repeat (first | refine blk_drewN ?_ _ | refine blk_drew ?_ | refine blk_alloc ?_ _)); refine blk_put (cs := #[.string ((rd_T45 l0_0 x3_1).f0), .string ((rd_T45 l0_0 x3_1).f1), .int .i64 0]) ?_ 2 _ rfl; (with_reducible repeat (first | refine blk_drewN ?_ _ | refine blk_drew ?_ | refine blk_alloc ?_ _)); refine blk_put (cs := #[.string ((rd_T45 l0_0 x3_1).f0), .string (⟨#[]⟩ : ByteArray), .int .i64 0]) ?_ 1 _ rfl; (with_reducible repeat (first | refine blk_drewN ?_ _ | refine blk_drew ?_ | refine blk_alloc ?_ _)); refine blk_put (cs := #[.string (⟨#[]⟩ : ByteArray), .string (⟨#[]⟩ : ByteArray), .int .i64 0]) ?_ 0 _ rfl; (with_reducible repeat (first | refine blk_drewN ?_ _ | refine blk_drew ?_ | refine blk_alloc ?_ _)); exact BK155.out⟩
       have n2_ : Aside0 (Below w.heap.size w (((w13.setCell ⟨gb155, 0, none⟩ (.string ((rd_T45 l0_0 x3_1).f0))).setCell ⟨gb155, 1, none⟩ (.string ((rd_T45 l0_0 x3_1).f1))).setCell ⟨gb155, 2, none⟩ (.int .i64 ((rd_T45 l0_0 x3_1).f2)))) := ⟨zw HB⟩
       (try clear BK153)
       (try clear BK155)
       (try clear HB)
       generalize (((w13.setCell ⟨gb155, 0, none⟩ (.string ((rd_T45 l0_0 x3_1).f0))).setCell ⟨gb155, 1, none⟩ (.string ((rd_T45 l0_0 x3_1).f1))).setCell ⟨gb155, 2, none⟩ (.int .i64 ((rd_T45 l0_0 x3_1).f2))) = w16 at n0_ n1_ n2_ ⊢
       have BK153 := n0_
       have BK155 := n1_
       have HB := n2_
       clear n0_ n1_ n2_
       replace BK153 := Aside0.mk (blk_drew BK153.out)
       replace BK155 := Aside0.mk (blk_drew BK155.out)
       replace HB := Aside0.mk (below_drew1 HB.out)
       refine start_ (n := 35) (S := fun w' => w'.cell? ⟨gb155, 0, none⟩ = some (.string ((rd_T45 l0_0 x3_1).f0)) ∧ w'.cell? ⟨gb155, 1, none⟩ = some (.string ((rd_T45 l0_0 x3_1).f1)) ∧ w'.cell? ⟨gb155, 2, none⟩ = some (.int .i64 ((rd_T45 l0_0 x3_1).f2))) (ds := []) q5_0 (by kernel_rfl) rfl rfl ⟨zv BK155, zv BK155, zv BK155⟩ (fun hHeld => ?_); refine with_tabW spec_DiskOk.tab7 spec_DiskOk.bits7 (fun HT_ HW_ => ?_)
       generalize w16.drew = w17 at BK153 BK155 HB hHeld ⊢
       refine zP 0 (some 21) q5_1 HT_ ?_
       refine zT 1 (some 22) q5_2 HT_ HW_ hHeld ?_
       refine one_ (i := 2) (N := some 23) q5_3 rfl rfl (one_of HT_.out (by kernel_rfl)) (by decide) (fun K hK => ?_)
       refine zH Try.func48 #[.string ((rd_T45 l0_0 x3_1).f0)] ?_
       with_reducible refine (spec_l03Name.calls ((rd_T45 l0_0 x3_1).f0) true _ A9.out).mono ?_
       rintro e w' ⟨rfl, ⟨nd, rfl⟩⟩
       refine ⟨_, rfl, ?_⟩
       refine hK.out _ _ ⟨zv BK155, zv BK155, zv BK155⟩ (fun hHeld => ?_)
       clear hK K
       refine zN ?_
       refine zP 3 (some 24) q5_4 HT_ ?_
       refine zP 4 (some 25) q5_5 HT_ ?_
       refine zP 5 (some 26) q5_6 HT_ ?_
       refine zT 6 (some 27) q5_7 HT_ HW_ hHeld ?_
       refine zP 7 (some 28) q5_8 HT_ ?_
       refine zP 8 (some 29) q5_9 HT_ ?_
       refine zP 9 (some 30) q5_10 HT_ ?_
       refine zP 10 (some 31) q5_11 HT_ ?_
       refine zU_ 11 (some 32) q5_12 HT_ ?_
       refine zU_ 12 (some 33) q5_13 HT_ ?_
       refine zU_ 13 (some 34) q5_14 HT_ ?_
       refine zU_ 14 (some 35) q5_15 HT_ ?_
       refine zU_ 15 (some 36) q5_16 HT_ ?_
       refine zU_ 16 (some 37) q5_17 HT_ ?_
       refine zU_ 17 (some 38) q5_18 HT_ ?_
       refine zP 18 (some 39) q5_19 HT_ ?_
       refine zP 19 (some 40) q5_20 HT_ ?_
       refine zU_ 20 (some 41) q5_21 HT_ ?_
       refine zU_ 21 (some 42) q5_22 HT_ ?_
       refine zU_ 22 (some 43) q5_23 HT_ ?_
       refine zU_ 23 (some 44) q5_24 HT_ ?_
       refine zU_ 24 (some 45) q5_25 HT_ ?_
       refine zU_ 25 (some 46) q5_26 HT_ ?_
       refine zU_ 26 (some 47) q5_27 HT_ ?_
       refine zU_ 27 (some 48) q5_28 HT_ ?_
       refine zU_ 28 (some 49) q5_29 HT_ ?_
       refine zU_ 29 (some 50) q5_30 HT_ ?_
       refine zU_ 30 (some 51) q5_31 HT_ ?_
       refine zU_ 31 (some 52) q5_32 HT_ ?_
       refine zU_ 32 (some 53) q5_33 HT_ ?_
       refine zU_ 33 (some 54) q5_34 HT_ ?_
       refine zP 34 (some 55) q5_35 HT_ ?_
       refine done_ (done_of HT_.out (by kernel_rfl)) ?_
       try go_wp2
       go_ret
       exact ⟨ze, zw HB⟩
      rw [if_neg c11] at H
      have c11b0 : decide (20000 < (((rd_T45 l0_0 x3_1).f1).size : Int)) = false := decide_eq_false c11
      have c11b1 : decide (20000 < ((rd_T45 l0_0 x3_1).f1).size) = false := decide_eq_false (by omega)
      clear c11
      replace H := Option.bind_eq_some_iff.mp H
      obtain ⟨t157, A180, H⟩ := H
      have A18 := Aside0.mk A180
      clear A180
      by_cases c19 : t157 = true
      ·subst c19
       rw [if_pos rfl] at H
       by_cases c20 : x3_1 > 0
       ·rw [if_pos c20] at H
        have c20b0 : decide (0 < x3_1) = true := decide_eq_true c20
        clear c20
        obtain ⟨ji21, hji21⟩ : ∃ j_ : Int, (wrap64 (x3_1 - 1)) = j_ := ⟨_, rfl⟩
        replace H : (if 0 ≤ (ji21) then (if (ji21) < (l0_0.length : Int) then (if ((Op.bytesLess (((rd_T45 l0_0 (ji21)).f0).toList) (((rd_T45 l0_0 x3_1).f0).toList)) = true) then (spec_DiskOk.l0 k1 (wrap64 (x3_1 + 1)) l0_0) else (some false)) else (none)) else (none)) = some r := by first | (rw [hji21] at H; exact H) | (simp only [hji21] at H ⊢; exact H)
        (try rw [hji21] at A9)
        (try rw [hji21] at A18)
        have hji21w : (IntKind.i64.wrap (x3_1 - 1)) = ji21 := (i64_w _).trans hji21
        by_cases c22 : 0 ≤ (ji21)
        ·rw [if_pos c22] at H
         have c22b0 := decide_eq_true c22
         clear c22
         by_cases c23 : (ji21) < (l0_0.length : Int)
         ·rw [if_pos c23] at H
          have c23b0 := decide_eq_true c23
          clear c23
          by_cases c24 : ((Op.bytesLess (((rd_T45 l0_0 (ji21)).f0).toList) (((rd_T45 l0_0 x3_1).f0).toList)) = true)
          ·rw [if_pos c24] at H
           have c24b0 : (Op.bytesLess (((rd_T45 l0_0 (ji21)).f0).toList) (((rd_T45 l0_0 x3_1).f0).toList)) = true := c24
           clear c24
           have H' := Aside0.mk H
           clear H
           obtain ⟨m25_0, n25_0⟩ := zc1 BK153
           have p154 : 0 ≤ (x3_1 : Int) := of_decide_eq_true za
           have q154 : x3_1 < (l0_0.length : Int) := of_decide_eq_true za
           obtain ⟨ad154, e154, hx154_0, hx154_1, hx154_2⟩ := at_T45 HR0_0.out x3_1 p154 q154
           cases e154
           replace hx154_0 := zU HB.out hx154_0
           replace hx154_1 := zU HB.out hx154_1
           replace hx154_2 := zU HB.out hx154_2
           replace p154 := eq_true p154
           replace q154 := eq_true q154
           try go_wp2_with (first | ((with_reducible refine gate_dst (N := 4) rfl ?_); (try (refine gate_guard (by rfl) ?_; dsimp only)); refine zx (N := 4) (cs := #[.string (⟨#[]⟩ : ByteArray), .string (⟨#[]⟩ : ByteArray), .int .i64 0]) (t := 45) ?_; intro gb155 hg w26 hbox hb; have BK155 := Aside0.mk (hbox); have GW155 := zg HB hg; have GE155 := zg HB hg; replace HB := zs HB hb; have NB153_155 := zl BK153 hg; have NB155_153 := zr BK153 hg; replace BK153 := zb BK153 hb; clear hb hbox hg; have hnb27 := NB155_153.out; have hnc27 := NB153_155.out; obtain ⟨m28_0, m28_1, m28_2, n28_0, n28_1, n28_2⟩ := zc3 BK155))
           have n0_ : Aside0 ((((w26.setCell ⟨gb155, 0, none⟩ (.string ((rd_T45 l0_0 x3_1).f0))).setCell ⟨gb155, 1, none⟩ (.string ((rd_T45 l0_0 x3_1).f1))).setCell ⟨gb155, 2, none⟩ (.int .i64 ((rd_T45 l0_0 x3_1).f2))).heap[gb153]? = some (.cells #[.slice (some ad154) l0_0.length c0_0] 29 (0, 0))) := ⟨zkf BK153⟩
           have n1_ : Aside0 ((((w26.setCell ⟨gb155, 0, none⟩ (.string ((rd_T45 l0_0 x3_1).f0))).setCell ⟨gb155, 1, none⟩ (.string ((rd_T45 l0_0 x3_1).f1))).setCell ⟨gb155, 2, none⟩ (.int .i64 ((rd_T45 l0_0 x3_1).f2))).heap[gb155]? = some (.cells #[.string ((rd_T45 l0_0 x3_1).f0), .string ((rd_T45 l0_0 x3_1).f1), .int .i64 ((rd_T45 l0_0 x3_1).f2)] 45 (0, 0))) := ⟨by (with_reducible repeat (first | refine blk_drewN ?_ _ | refine blk_drew ?_ | refine blk_alloc ?_ _)); refine blk_put (cs := #[.string ((rd_T45 l0_0 x3_1).f0), .string ((rd_T45 l0_0 x3_1).f1), .int .i64 0]) ?_ 2 _ rfl; (with_reducible repeat (first | refine blk_drewN ?_ _ | refine blk_drew ?_ | refine blk_alloc ?_ _)); refine blk_put (cs := #[.string ((rd_T45 l0_0 x3_1).f0), .string (⟨#[]⟩ : ByteArray), .int .i64 0]) ?_ 1 _ rfl; (with_reducible repeat (first | refine blk_drewN ?_ _ | refine blk_drew ?_ | refine blk_alloc ?_ _)); refine blk_put (cs := #[.string (⟨#[]⟩ : ByteArray), .string (⟨#[]⟩ : ByteArray), .int .i64 0]) ?_ 0 _ rfl; (with_reducible repeat (first | refine blk_drewN ?_ _ | refine blk_drew ?_ | refine blk_alloc ?_ _)); exact BK155.out⟩
           have n2_ : Aside0 (Below w.heap.size w (((w26.setCell ⟨gb155, 0, none⟩ (.string ((rd_T45 l0_0 x3_1).f0))).setCell ⟨gb155, 1, none⟩ (.string ((rd_T45 l0_0 x3_1).f1))).setCell ⟨gb155, 2, none⟩ (.int .i64 ((rd_T45 l0_0 x3_1).f2)))) := ⟨zw HB⟩
           (try clear BK153)
           (try clear BK155)
           (try clear HB)
           generalize (((w26.setCell ⟨gb155, 0, none⟩ (.string ((rd_T45 l0_0 x3_1).f0))).setCell ⟨gb155, 1, none⟩ (.string ((rd_T45 l0_0 x3_1).f1))).setCell ⟨gb155, 2, none⟩ (.int .i64 ((rd_T45 l0_0 x3_1).f2))) = w29 at n0_ n1_ n2_ ⊢
           have BK153 := n0_
           have BK155 := n1_
           have HB := n2_
           clear n0_ n1_ n2_
           replace BK153 := Aside0.mk (blk_drew BK153.out)
           replace BK155 := Aside0.mk (blk_drew BK155.out)
           replace HB := Aside0.mk (below_drew1 HB.out)
           have p158 : 0 ≤ ((ji21) : Int) := of_decide_eq_true za
           have q158 : (ji21) < (l0_0.length : Int) := of_decide_eq_true za
           obtain ⟨ad158, e158, hx158_0, hx158_1, hx158_2⟩ := at_T45 HR0_0.out (ji21) p158 q158
           have hw158_2 := hx158_2
           have hw158_1 := hx158_1
           have hw158_0 := hx158_0
           obtain rfl : ad154 = ad158 := (by injection e158)
           replace hx158_0 := zU HB.out hx158_0
           replace hx158_1 := zU HB.out hx158_1
           replace hx158_2 := zU HB.out hx158_2
           replace p158 := eq_true p158
           replace q158 := eq_true q158
           refine start_ (n := 35) (S := fun w' => w'.cell? ⟨gb155, 0, none⟩ = some (.string ((rd_T45 l0_0 x3_1).f0)) ∧ w'.cell? ⟨gb155, 1, none⟩ = some (.string ((rd_T45 l0_0 x3_1).f1)) ∧ w'.cell? ⟨gb155, 2, none⟩ = some (.int .i64 ((rd_T45 l0_0 x3_1).f2)) ∧ w'.cell? ⟨gb153, 0, none⟩ = some (.slice (some ad154) l0_0.length c0_0) ∧ w'.cell? (ad154.add (((ji21)).toNat * 3)) = some (.string ((rd_T45 l0_0 (ji21)).f0)) ∧ w'.cell? ⟨(ad154.add (((ji21)).toNat * 3)).block, (ad154.add (((ji21)).toNat * 3)).off + 1, none⟩ = some (.string ((rd_T45 l0_0 (ji21)).f1)) ∧ w'.cell? ⟨(ad154.add (((ji21)).toNat * 3)).block, (ad154.add (((ji21)).toNat * 3)).off + 2, none⟩ = some (.int .i64 ((rd_T45 l0_0 (ji21)).f2))) (ds := []) q5_0 (by kernel_rfl) rfl rfl ⟨zv BK155, zv BK155, zv BK155, zv BK153, (zU HB.out hw158_0), (zU HB.out hw158_1), (zU HB.out hw158_2)⟩ (fun hHeld => ?_); refine with_tabW spec_DiskOk.tab7 spec_DiskOk.bits7 (fun HT_ HW_ => ?_)
           generalize w29.drew = w30 at BK153 BK155 HB hx158_0 hx158_1 hx158_2 hHeld ⊢
           refine zP 0 (some 21) q5_1 HT_ ?_
           refine zT 1 (some 22) q5_2 HT_ HW_ hHeld ?_
           refine one_ (i := 2) (N := some 23) q5_3 rfl rfl (one_of HT_.out (by kernel_rfl)) (by decide) (fun K hK => ?_)
           refine zH Try.func48 #[.string ((rd_T45 l0_0 x3_1).f0)] ?_
           with_reducible refine (spec_l03Name.calls ((rd_T45 l0_0 x3_1).f0) true _ A9.out).mono ?_
           rintro e w' ⟨rfl, ⟨nd, rfl⟩⟩
           refine ⟨_, rfl, ?_⟩
           refine hK.out _ _ ⟨zv BK155, zv BK155, zv BK155, zv BK153, (zU HB.out hw158_0), (zU HB.out hw158_1), (zU HB.out hw158_2)⟩ (fun hHeld => ?_)
           clear hK K
           refine zN ?_
           refine zP 3 (some 24) q5_4 HT_ ?_
           refine zP 4 (some 25) q5_5 HT_ ?_
           refine zP 5 (some 26) q5_6 HT_ ?_
           refine zT 6 (some 27) q5_7 HT_ HW_ hHeld ?_
           refine zP 7 (some 28) q5_8 HT_ ?_
           refine zP 8 (some 29) q5_9 HT_ ?_
           refine zP 9 (some 30) q5_10 HT_ ?_
           refine zP 10 (some 31) q5_11 HT_ ?_
           refine zP 11 (some 32) q5_12 HT_ ?_
           refine zP 13 (some 34) q5_36 HT_ ?_
           refine zT 12 (some 33) q5_14 HT_ HW_ hHeld ?_
           refine zT 14 (some 35) q5_15 HT_ HW_ hHeld ?_
           refine zP 15 (some 36) q5_16 HT_ ?_
           refine one_ (i := 16) (N := some 37) q5_17 rfl rfl (one_of HT_.out (by kernel_rfl)) (by decide) (fun K hK => ?_)
           refine zH Try.func49 #[.int .i64 ((rd_T45 l0_0 x3_1).f2), .int .i64 0, .int .i64 (((rd_T45 l0_0 x3_1).f1).size : Int)] ?_
           with_reducible refine (spec_l01In.calls ((rd_T45 l0_0 x3_1).f2) 0 (((rd_T45 l0_0 x3_1).f1).size : Int) true _ A18.out).mono ?_
           rintro e w' ⟨rfl, ⟨nd, rfl⟩⟩
           refine ⟨_, rfl, ?_⟩
           refine hK.out _ _ ⟨zv BK155, zv BK155, zv BK155, zv BK153, (zU HB.out hw158_0), (zU HB.out hw158_1), (zU HB.out hw158_2)⟩ (fun hHeld => ?_)
           clear hK K
           refine zN ?_
           refine zP 17 (some 38) q5_18 HT_ ?_
           refine zP 18 (some 39) q5_19 HT_ ?_
           refine zP 19 (some 40) q5_20 HT_ ?_
           refine zP 20 (some 41) q5_21 HT_ ?_
           refine zP 21 (some 42) q5_22 HT_ ?_
           refine zP 22 (some 43) q5_23 HT_ ?_
           refine zP 23 (some 44) q5_24 HT_ ?_
           refine zP 25 (some 46) q5_37 HT_ ?_
           refine zP 26 (some 47) q5_38 HT_ ?_
           refine zP 30 (some 51) q5_39 HT_ ?_
           refine zT 24 (some 45) q5_40 HT_ HW_ hHeld ?_
           refine zP 27 (some 48) q5_41 HT_ ?_
           refine zP 28 (some 49) q5_42 HT_ ?_
           refine zT 29 (some 50) q5_31 HT_ HW_ hHeld ?_
           refine zT 31 (some 52) q5_32 HT_ HW_ hHeld ?_
           refine zP 32 (some 53) q5_33 HT_ ?_
           refine zP 33 (some 54) q5_34 HT_ ?_
           refine zP 34 (some 55) q5_35 HT_ ?_
           refine done_ (done_of HT_.out (by kernel_rfl)) ?_
           try go_wp2
           go_roundg k1
           case measure => have := HK1.out; omega
           case rel => exact ⟨(wrap64 (x3_1 + 1)), zf, H', ⟨by have := HK1.out; omega⟩, ⟨zkf BK153⟩, ⟨zw HB⟩⟩
          rw [if_neg c24] at H
          have c24b0 : (Op.bytesLess (((rd_T45 l0_0 (ji21)).f0).toList) (((rd_T45 l0_0 x3_1).f0).toList)) = false := by simpa using c24
          clear c24
          obtain rfl := Option.some.inj H
          obtain ⟨m31_0, n31_0⟩ := zc1 BK153
          have p154 : 0 ≤ (x3_1 : Int) := of_decide_eq_true za
          have q154 : x3_1 < (l0_0.length : Int) := of_decide_eq_true za
          obtain ⟨ad154, e154, hx154_0, hx154_1, hx154_2⟩ := at_T45 HR0_0.out x3_1 p154 q154
          cases e154
          replace hx154_0 := zU HB.out hx154_0
          replace hx154_1 := zU HB.out hx154_1
          replace hx154_2 := zU HB.out hx154_2
          replace p154 := eq_true p154
          replace q154 := eq_true q154
          try go_wp2_with (first | ((with_reducible refine gate_dst (N := 4) rfl ?_); (try (refine gate_guard (by rfl) ?_; dsimp only)); refine zx (N := 4) (cs := #[.string (⟨#[]⟩ : ByteArray), .string (⟨#[]⟩ : ByteArray), .int .i64 0]) (t := 45) ?_; intro gb155 hg w32 hbox hb; have BK155 := Aside0.mk (hbox); have GW155 := zg HB hg; have GE155 := zg HB hg; replace HB := zs HB hb; have NB153_155 := zl BK153 hg; have NB155_153 := zr BK153 hg; replace BK153 := zb BK153 hb; clear hb hbox hg; have hnb33 := NB155_153.out; have hnc33 := NB153_155.out; obtain ⟨m34_0, m34_1, m34_2, n34_0, n34_1, n34_2⟩ := zc3 BK155))
          have n0_ : Aside0 ((((w32.setCell ⟨gb155, 0, none⟩ (.string ((rd_T45 l0_0 x3_1).f0))).setCell ⟨gb155, 1, none⟩ (.string ((rd_T45 l0_0 x3_1).f1))).setCell ⟨gb155, 2, none⟩ (.int .i64 ((rd_T45 l0_0 x3_1).f2))).heap[gb153]? = some (.cells #[.slice (some ad154) l0_0.length c0_0] 29 (0, 0))) := ⟨zkf BK153⟩
          have n1_ : Aside0 ((((w32.setCell ⟨gb155, 0, none⟩ (.string ((rd_T45 l0_0 x3_1).f0))).setCell ⟨gb155, 1, none⟩ (.string ((rd_T45 l0_0 x3_1).f1))).setCell ⟨gb155, 2, none⟩ (.int .i64 ((rd_T45 l0_0 x3_1).f2))).heap[gb155]? = some (.cells #[.string ((rd_T45 l0_0 x3_1).f0), .string ((rd_T45 l0_0 x3_1).f1), .int .i64 ((rd_T45 l0_0 x3_1).f2)] 45 (0, 0))) := ⟨by (with_reducible repeat (first | refine blk_drewN ?_ _ | refine blk_drew ?_ | refine blk_alloc ?_ _)); refine blk_put (cs := #[.string ((rd_T45 l0_0 x3_1).f0), .string ((rd_T45 l0_0 x3_1).f1), .int .i64 0]) ?_ 2 _ rfl; (with_reducible repeat (first | refine blk_drewN ?_ _ | refine blk_drew ?_ | refine blk_alloc ?_ _)); refine blk_put (cs := #[.string ((rd_T45 l0_0 x3_1).f0), .string (⟨#[]⟩ : ByteArray), .int .i64 0]) ?_ 1 _ rfl; (with_reducible repeat (first | refine blk_drewN ?_ _ | refine blk_drew ?_ | refine blk_alloc ?_ _)); refine blk_put (cs := #[.string (⟨#[]⟩ : ByteArray), .string (⟨#[]⟩ : ByteArray), .int .i64 0]) ?_ 0 _ rfl; (with_reducible repeat (first | refine blk_drewN ?_ _ | refine blk_drew ?_ | refine blk_alloc ?_ _)); exact BK155.out⟩
          have n2_ : Aside0 (Below w.heap.size w (((w32.setCell ⟨gb155, 0, none⟩ (.string ((rd_T45 l0_0 x3_1).f0))).setCell ⟨gb155, 1, none⟩ (.string ((rd_T45 l0_0 x3_1).f1))).setCell ⟨gb155, 2, none⟩ (.int .i64 ((rd_T45 l0_0 x3_1).f2)))) := ⟨zw HB⟩
          (try clear BK153)
          (try clear BK155)
          (try clear HB)
          generalize (((w32.setCell ⟨gb155, 0, none⟩ (.string ((rd_T45 l0_0 x3_1).f0))).setCell ⟨gb155, 1, none⟩ (.string ((rd_T45 l0_0 x3_1).f1))).setCell ⟨gb155, 2, none⟩ (.int .i64 ((rd_T45 l0_0 x3_1).f2))) = w35 at n0_ n1_ n2_ ⊢
          have BK153 := n0_
          have BK155 := n1_
          have HB := n2_
          clear n0_ n1_ n2_
          replace BK153 := Aside0.mk (blk_drew BK153.out)
          replace BK155 := Aside0.mk (blk_drew BK155.out)
          replace HB := Aside0.mk (below_drew1 HB.out)
          have p158 : 0 ≤ ((ji21) : Int) := of_decide_eq_true za
          have q158 : (ji21) < (l0_0.length : Int) := of_decide_eq_true za
          obtain ⟨ad158, e158, hx158_0, hx158_1, hx158_2⟩ := at_T45 HR0_0.out (ji21) p158 q158
          have hw158_2 := hx158_2
          have hw158_1 := hx158_1
          have hw158_0 := hx158_0
          obtain rfl : ad154 = ad158 := (by injection e158)
          replace hx158_0 := zU HB.out hx158_0
          replace hx158_1 := zU HB.out hx158_1
          replace hx158_2 := zU HB.out hx158_2
          replace p158 := eq_true p158
          replace q158 := eq_true q158
          refine start_ (n := 35) (S := fun w' => w'.cell? ⟨gb155, 0, none⟩ = some (.string ((rd_T45 l0_0 x3_1).f0)) ∧ w'.cell? ⟨gb155, 1, none⟩ = some (.string ((rd_T45 l0_0 x3_1).f1)) ∧ w'.cell? ⟨gb155, 2, none⟩ = some (.int .i64 ((rd_T45 l0_0 x3_1).f2)) ∧ w'.cell? ⟨gb153, 0, none⟩ = some (.slice (some ad154) l0_0.length c0_0) ∧ w'.cell? (ad154.add (((ji21)).toNat * 3)) = some (.string ((rd_T45 l0_0 (ji21)).f0)) ∧ w'.cell? ⟨(ad154.add (((ji21)).toNat * 3)).block, (ad154.add (((ji21)).toNat * 3)).off + 1, none⟩ = some (.string ((rd_T45 l0_0 (ji21)).f1)) ∧ w'.cell? ⟨(ad154.add (((ji21)).toNat * 3)).block, (ad154.add (((ji21)).toNat * 3)).off + 2, none⟩ = some (.int .i64 ((rd_T45 l0_0 (ji21)).f2))) (ds := []) q5_0 (by kernel_rfl) rfl rfl ⟨zv BK155, zv BK155, zv BK155, zv BK153, (zU HB.out hw158_0), (zU HB.out hw158_1), (zU HB.out hw158_2)⟩ (fun hHeld => ?_); refine with_tabW spec_DiskOk.tab7 spec_DiskOk.bits7 (fun HT_ HW_ => ?_)
          generalize w35.drew = w36 at BK153 BK155 HB hx158_0 hx158_1 hx158_2 hHeld ⊢
          refine zP 0 (some 21) q5_1 HT_ ?_
          refine zT 1 (some 22) q5_2 HT_ HW_ hHeld ?_
          refine one_ (i := 2) (N := some 23) q5_3 rfl rfl (one_of HT_.out (by kernel_rfl)) (by decide) (fun K hK => ?_)
          refine zH Try.func48 #[.string ((rd_T45 l0_0 x3_1).f0)] ?_
          with_reducible refine (spec_l03Name.calls ((rd_T45 l0_0 x3_1).f0) true _ A9.out).mono ?_
          rintro e w' ⟨rfl, ⟨nd, rfl⟩⟩
          refine ⟨_, rfl, ?_⟩
          refine hK.out _ _ ⟨zv BK155, zv BK155, zv BK155, zv BK153, (zU HB.out hw158_0), (zU HB.out hw158_1), (zU HB.out hw158_2)⟩ (fun hHeld => ?_)
          clear hK K
          refine zN ?_
          refine zP 3 (some 24) q5_4 HT_ ?_
          refine zP 4 (some 25) q5_5 HT_ ?_
          refine zP 5 (some 26) q5_6 HT_ ?_
          refine zT 6 (some 27) q5_7 HT_ HW_ hHeld ?_
          refine zP 7 (some 28) q5_8 HT_ ?_
          refine zP 8 (some 29) q5_9 HT_ ?_
          refine zP 9 (some 30) q5_10 HT_ ?_
          refine zP 10 (some 31) q5_11 HT_ ?_
          refine zP 11 (some 32) q5_12 HT_ ?_
          refine zP 13 (some 34) q5_36 HT_ ?_
          refine zT 12 (some 33) q5_14 HT_ HW_ hHeld ?_
          refine zT 14 (some 35) q5_15 HT_ HW_ hHeld ?_
          refine zP 15 (some 36) q5_16 HT_ ?_
          refine one_ (i := 16) (N := some 37) q5_17 rfl rfl (one_of HT_.out (by kernel_rfl)) (by decide) (fun K hK => ?_)
          refine zH Try.func49 #[.int .i64 ((rd_T45 l0_0 x3_1).f2), .int .i64 0, .int .i64 (((rd_T45 l0_0 x3_1).f1).size : Int)] ?_
          with_reducible refine (spec_l01In.calls ((rd_T45 l0_0 x3_1).f2) 0 (((rd_T45 l0_0 x3_1).f1).size : Int) true _ A18.out).mono ?_
          rintro e w' ⟨rfl, ⟨nd, rfl⟩⟩
          refine ⟨_, rfl, ?_⟩
          refine hK.out _ _ ⟨zv BK155, zv BK155, zv BK155, zv BK153, (zU HB.out hw158_0), (zU HB.out hw158_1), (zU HB.out hw158_2)⟩ (fun hHeld => ?_)
          clear hK K
          refine zN ?_
          refine zP 17 (some 38) q5_18 HT_ ?_
          refine zP 18 (some 39) q5_19 HT_ ?_
          refine zP 19 (some 40) q5_20 HT_ ?_
          refine zP 20 (some 41) q5_21 HT_ ?_
          refine zP 21 (some 42) q5_22 HT_ ?_
          refine zP 22 (some 43) q5_23 HT_ ?_
          refine zP 23 (some 44) q5_24 HT_ ?_
          refine zP 25 (some 46) q5_37 HT_ ?_
          refine zP 26 (some 47) q5_38 HT_ ?_
          refine zP 30 (some 51) q5_39 HT_ ?_
          refine zT 24 (some 45) q5_40 HT_ HW_ hHeld ?_
          refine zP 27 (some 48) q5_41 HT_ ?_
          refine zP 28 (some 49) q5_42 HT_ ?_
          refine zT 29 (some 50) q5_31 HT_ HW_ hHeld ?_
          refine zT 31 (some 52) q5_32 HT_ HW_ hHeld ?_
          refine zP 32 (some 53) q5_33 HT_ ?_
          refine zP 33 (some 54) q5_34 HT_ ?_
          refine zP 34 (some 55) q5_35 HT_ ?_
          refine done_ (done_of HT_.out (by kernel_rfl)) ?_
          try go_wp2
          go_ret
          exact ⟨by first | rfl | (simp [errW_none, errW_some] <;> rfl) | (simp only [← hji21]; first | rfl | (simp [errW_none, errW_some] <;> rfl)) | (simp [*, errW_none, errW_some] <;> rfl), zw HB⟩
         rw [if_neg c23] at H
         exact absurd H (by simp)
        rw [if_neg c22] at H
        exact absurd H (by simp)
       rw [if_neg c20] at H
       have c20b0 : decide (0 < x3_1) = false := decide_eq_false c20
       clear c20
       have H' := Aside0.mk H
       clear H
       obtain ⟨m37_0, n37_0⟩ := zc1 BK153
       have p154 : 0 ≤ (x3_1 : Int) := of_decide_eq_true za
       have q154 : x3_1 < (l0_0.length : Int) := of_decide_eq_true za
       obtain ⟨ad154, e154, hx154_0, hx154_1, hx154_2⟩ := at_T45 HR0_0.out x3_1 p154 q154
       cases e154
       replace hx154_0 := zU HB.out hx154_0
       replace hx154_1 := zU HB.out hx154_1
       replace hx154_2 := zU HB.out hx154_2
       replace p154 := eq_true p154
       replace q154 := eq_true q154
       try go_wp2_with (first | ((with_reducible refine gate_dst (N := 4) rfl ?_); (try (refine gate_guard (by rfl) ?_; dsimp only)); refine zx (N := 4) (cs := #[.string (⟨#[]⟩ : ByteArray), .string (⟨#[]⟩ : ByteArray), .int .i64 0]) (t := 45) ?_; intro gb155 hg w38 hbox hb; have BK155 := Aside0.mk (hbox); have GW155 := zg HB hg; have GE155 := zg HB hg; replace HB := zs HB hb; have NB153_155 := zl BK153 hg; have NB155_153 := zr BK153 hg; replace BK153 := zb BK153 hb; clear hb hbox hg; have hnb39 := NB155_153.out; have hnc39 := NB153_155.out; obtain ⟨m40_0, m40_1, m40_2, n40_0, n40_1, n40_2⟩ := zc3 BK155))
       have n0_ : Aside0 ((((w38.setCell ⟨gb155, 0, none⟩ (.string ((rd_T45 l0_0 x3_1).f0))).setCell ⟨gb155, 1, none⟩ (.string ((rd_T45 l0_0 x3_1).f1))).setCell ⟨gb155, 2, none⟩ (.int .i64 ((rd_T45 l0_0 x3_1).f2))).heap[gb153]? = some (.cells #[.slice (some ad154) l0_0.length c0_0] 29 (0, 0))) := ⟨zkf BK153⟩
       have n1_ : Aside0 ((((w38.setCell ⟨gb155, 0, none⟩ (.string ((rd_T45 l0_0 x3_1).f0))).setCell ⟨gb155, 1, none⟩ (.string ((rd_T45 l0_0 x3_1).f1))).setCell ⟨gb155, 2, none⟩ (.int .i64 ((rd_T45 l0_0 x3_1).f2))).heap[gb155]? = some (.cells #[.string ((rd_T45 l0_0 x3_1).f0), .string ((rd_T45 l0_0 x3_1).f1), .int .i64 ((rd_T45 l0_0 x3_1).f2)] 45 (0, 0))) := ⟨by (with_reducible repeat (first | refine blk_drewN ?_ _ | refine blk_drew ?_ | refine blk_alloc ?_ _)); refine blk_put (cs := #[.string ((rd_T45 l0_0 x3_1).f0), .string ((rd_T45 l0_0 x3_1).f1), .int .i64 0]) ?_ 2 _ rfl; (with_reducible repeat (first | refine blk_drewN ?_ _ | refine blk_drew ?_ | refine blk_alloc ?_ _)); refine blk_put (cs := #[.string ((rd_T45 l0_0 x3_1).f0), .string (⟨#[]⟩ : ByteArray), .int .i64 0]) ?_ 1 _ rfl; (with_reducible repeat (first | refine blk_drewN ?_ _ | refine blk_drew ?_ | refine blk_alloc ?_ _)); refine blk_put (cs := #[.string (⟨#[]⟩ : ByteArray), .string (⟨#[]⟩ : ByteArray), .int .i64 0]) ?_ 0 _ rfl; (with_reducible repeat (first | refine blk_drewN ?_ _ | refine blk_drew ?_ | refine blk_alloc ?_ _)); exact BK155.out⟩
       have n2_ : Aside0 (Below w.heap.size w (((w38.setCell ⟨gb155, 0, none⟩ (.string ((rd_T45 l0_0 x3_1).f0))).setCell ⟨gb155, 1, none⟩ (.string ((rd_T45 l0_0 x3_1).f1))).setCell ⟨gb155, 2, none⟩ (.int .i64 ((rd_T45 l0_0 x3_1).f2)))) := ⟨zw HB⟩
       (try clear BK153)
       (try clear BK155)
       (try clear HB)
       generalize (((w38.setCell ⟨gb155, 0, none⟩ (.string ((rd_T45 l0_0 x3_1).f0))).setCell ⟨gb155, 1, none⟩ (.string ((rd_T45 l0_0 x3_1).f1))).setCell ⟨gb155, 2, none⟩ (.int .i64 ((rd_T45 l0_0 x3_1).f2))) = w41 at n0_ n1_ n2_ ⊢
       have BK153 := n0_
       have BK155 := n1_
       have HB := n2_
       clear n0_ n1_ n2_
       replace BK153 := Aside0.mk (blk_drew BK153.out)
       replace BK155 := Aside0.mk (blk_drew BK155.out)
       replace HB := Aside0.mk (below_drew1 HB.out)
       refine start_ (n := 35) (S := fun w' => w'.cell? ⟨gb155, 0, none⟩ = some (.string ((rd_T45 l0_0 x3_1).f0)) ∧ w'.cell? ⟨gb155, 1, none⟩ = some (.string ((rd_T45 l0_0 x3_1).f1)) ∧ w'.cell? ⟨gb155, 2, none⟩ = some (.int .i64 ((rd_T45 l0_0 x3_1).f2))) (ds := []) q5_0 (by kernel_rfl) rfl rfl ⟨zv BK155, zv BK155, zv BK155⟩ (fun hHeld => ?_); refine with_tabW spec_DiskOk.tab7 spec_DiskOk.bits7 (fun HT_ HW_ => ?_)
       generalize w41.drew = w42 at BK153 BK155 HB hHeld ⊢
       refine zP 0 (some 21) q5_1 HT_ ?_
       refine zT 1 (some 22) q5_2 HT_ HW_ hHeld ?_
       refine one_ (i := 2) (N := some 23) q5_3 rfl rfl (one_of HT_.out (by kernel_rfl)) (by decide) (fun K hK => ?_)
       refine zH Try.func48 #[.string ((rd_T45 l0_0 x3_1).f0)] ?_
       with_reducible refine (spec_l03Name.calls ((rd_T45 l0_0 x3_1).f0) true _ A9.out).mono ?_
       rintro e w' ⟨rfl, ⟨nd, rfl⟩⟩
       refine ⟨_, rfl, ?_⟩
       refine hK.out _ _ ⟨zv BK155, zv BK155, zv BK155⟩ (fun hHeld => ?_)
       clear hK K
       refine zN ?_
       refine zP 3 (some 24) q5_4 HT_ ?_
       refine zP 4 (some 25) q5_5 HT_ ?_
       refine zP 5 (some 26) q5_6 HT_ ?_
       refine zT 6 (some 27) q5_7 HT_ HW_ hHeld ?_
       refine zP 7 (some 28) q5_8 HT_ ?_
       refine zP 8 (some 29) q5_9 HT_ ?_
       refine zP 9 (some 30) q5_10 HT_ ?_
       refine zP 10 (some 31) q5_11 HT_ ?_
       refine zP 11 (some 32) q5_12 HT_ ?_
       refine zP 13 (some 34) q5_36 HT_ ?_
       refine zT 12 (some 33) q5_14 HT_ HW_ hHeld ?_
       refine zT 14 (some 35) q5_15 HT_ HW_ hHeld ?_
       refine zP 15 (some 36) q5_16 HT_ ?_
       refine one_ (i := 16) (N := some 37) q5_17 rfl rfl (one_of HT_.out (by kernel_rfl)) (by decide) (fun K hK => ?_)
       refine zH Try.func49 #[.int .i64 ((rd_T45 l0_0 x3_1).f2), .int .i64 0, .int .i64 (((rd_T45 l0_0 x3_1).f1).size : Int)] ?_
       with_reducible refine (spec_l01In.calls ((rd_T45 l0_0 x3_1).f2) 0 (((rd_T45 l0_0 x3_1).f1).size : Int) true _ A18.out).mono ?_
       rintro e w' ⟨rfl, ⟨nd, rfl⟩⟩
       refine ⟨_, rfl, ?_⟩
       refine hK.out _ _ ⟨zv BK155, zv BK155, zv BK155⟩ (fun hHeld => ?_)
       clear hK K
       refine zN ?_
       refine zP 17 (some 38) q5_18 HT_ ?_
       refine zP 18 (some 39) q5_19 HT_ ?_
       refine zP 19 (some 40) q5_20 HT_ ?_
       refine zP 20 (some 41) q5_21 HT_ ?_
       refine zP 21 (some 42) q5_22 HT_ ?_
       refine zP 22 (some 43) q5_23 HT_ ?_
       refine zU_ 23 (some 44) q5_24 HT_ ?_
       refine zU_ 24 (some 45) q5_25 HT_ ?_
       refine zU_ 25 (some 46) q5_26 HT_ ?_
       refine zU_ 26 (some 47) q5_27 HT_ ?_
       refine zU_ 27 (some 48) q5_28 HT_ ?_
       refine zU_ 28 (some 49) q5_29 HT_ ?_
       refine zU_ 29 (some 50) q5_30 HT_ ?_
       refine zU_ 30 (some 51) q5_31 HT_ ?_
       refine zU_ 31 (some 52) q5_32 HT_ ?_
       refine zU_ 32 (some 53) q5_33 HT_ ?_
       refine zP 33 (some 54) q5_34 HT_ ?_
       refine zP 34 (some 55) q5_35 HT_ ?_
       refine done_ (done_of HT_.out (by kernel_rfl)) ?_
       try go_wp2
       go_roundg k1
       case measure => have := HK1.out; omega
       case rel => exact ⟨(wrap64 (x3_1 + 1)), zf, H', ⟨by have := HK1.out; omega⟩, ⟨zkf BK153⟩, ⟨zw HB⟩⟩
      replace c19 := Bool.eq_false_iff.mpr c19
      subst c19
      rw [if_neg (show ¬ (false = true) by decide)] at H
      obtain rfl := Option.some.inj H
      obtain ⟨m43_0, n43_0⟩ := zc1 BK153
      have p154 : 0 ≤ (x3_1 : Int) := of_decide_eq_true za
      have q154 : x3_1 < (l0_0.length : Int) := of_decide_eq_true za
      obtain ⟨ad154, e154, hx154_0, hx154_1, hx154_2⟩ := at_T45 HR0_0.out x3_1 p154 q154
      cases e154
      replace hx154_0 := zU HB.out hx154_0
      replace hx154_1 := zU HB.out hx154_1
      replace hx154_2 := zU HB.out hx154_2
      replace p154 := eq_true p154
      replace q154 := eq_true q154
      try go_wp2_with (first | ((with_reducible refine gate_dst (N := 4) rfl ?_); (try (refine gate_guard (by rfl) ?_; dsimp only)); refine zx (N := 4) (cs := #[.string (⟨#[]⟩ : ByteArray), .string (⟨#[]⟩ : ByteArray), .int .i64 0]) (t := 45) ?_; intro gb155 hg w44 hbox hb; have BK155 := Aside0.mk (hbox); have GW155 := zg HB hg; have GE155 := zg HB hg; replace HB := zs HB hb; have NB153_155 := zl BK153 hg; have NB155_153 := zr BK153 hg; replace BK153 := zb BK153 hb; clear hb hbox hg; have hnb45 := NB155_153.out; have hnc45 := NB153_155.out; obtain ⟨m46_0, m46_1, m46_2, n46_0, n46_1, n46_2⟩ := zc3 BK155))
      have n0_ : Aside0 ((((w44.setCell ⟨gb155, 0, none⟩ (.string ((rd_T45 l0_0 x3_1).f0))).setCell ⟨gb155, 1, none⟩ (.string ((rd_T45 l0_0 x3_1).f1))).setCell ⟨gb155, 2, none⟩ (.int .i64 ((rd_T45 l0_0 x3_1).f2))).heap[gb153]? = some (.cells #[.slice (some ad154) l0_0.length c0_0] 29 (0, 0))) := ⟨zkf BK153⟩
      have n1_ : Aside0 ((((w44.setCell ⟨gb155, 0, none⟩ (.string ((rd_T45 l0_0 x3_1).f0))).setCell ⟨gb155, 1, none⟩ (.string ((rd_T45 l0_0 x3_1).f1))).setCell ⟨gb155, 2, none⟩ (.int .i64 ((rd_T45 l0_0 x3_1).f2))).heap[gb155]? = some (.cells #[.string ((rd_T45 l0_0 x3_1).f0), .string ((rd_T45 l0_0 x3_1).f1), .int .i64 ((rd_T45 l0_0 x3_1).f2)] 45 (0, 0))) := ⟨by (with_reducible repeat (first | refine blk_drewN ?_ _ | refine blk_drew ?_ | refine blk_alloc ?_ _)); refine blk_put (cs := #[.string ((rd_T45 l0_0 x3_1).f0), .string ((rd_T45 l0_0 x3_1).f1), .int .i64 0]) ?_ 2 _ rfl; (with_reducible repeat (first | refine blk_drewN ?_ _ | refine blk_drew ?_ | refine blk_alloc ?_ _)); refine blk_put (cs := #[.string ((rd_T45 l0_0 x3_1).f0), .string (⟨#[]⟩ : ByteArray), .int .i64 0]) ?_ 1 _ rfl; (with_reducible repeat (first | refine blk_drewN ?_ _ | refine blk_drew ?_ | refine blk_alloc ?_ _)); refine blk_put (cs := #[.string (⟨#[]⟩ : ByteArray), .string (⟨#[]⟩ : ByteArray), .int .i64 0]) ?_ 0 _ rfl; (with_reducible repeat (first | refine blk_drewN ?_ _ | refine blk_drew ?_ | refine blk_alloc ?_ _)); exact BK155.out⟩
      have n2_ : Aside0 (Below w.heap.size w (((w44.setCell ⟨gb155, 0, none⟩ (.string ((rd_T45 l0_0 x3_1).f0))).setCell ⟨gb155, 1, none⟩ (.string ((rd_T45 l0_0 x3_1).f1))).setCell ⟨gb155, 2, none⟩ (.int .i64 ((rd_T45 l0_0 x3_1).f2)))) := ⟨zw HB⟩
      (try clear BK153)
      (try clear BK155)
      (try clear HB)
      generalize (((w44.setCell ⟨gb155, 0, none⟩ (.string ((rd_T45 l0_0 x3_1).f0))).setCell ⟨gb155, 1, none⟩ (.string ((rd_T45 l0_0 x3_1).f1))).setCell ⟨gb155, 2, none⟩ (.int .i64 ((rd_T45 l0_0 x3_1).f2))) = w47 at n0_ n1_ n2_ ⊢
      have BK153 := n0_
      have BK155 := n1_
      have HB := n2_
      clear n0_ n1_ n2_
      replace BK153 := Aside0.mk (blk_drew BK153.out)
      replace BK155 := Aside0.mk (blk_drew BK155.out)
      replace HB := Aside0.mk (below_drew1 HB.out)
      refine start_ (n := 35) (S := fun w' => w'.cell? ⟨gb155, 0, none⟩ = some (.string ((rd_T45 l0_0 x3_1).f0)) ∧ w'.cell? ⟨gb155, 1, none⟩ = some (.string ((rd_T45 l0_0 x3_1).f1)) ∧ w'.cell? ⟨gb155, 2, none⟩ = some (.int .i64 ((rd_T45 l0_0 x3_1).f2))) (ds := []) q5_0 (by kernel_rfl) rfl rfl ⟨zv BK155, zv BK155, zv BK155⟩ (fun hHeld => ?_); refine with_tabW spec_DiskOk.tab7 spec_DiskOk.bits7 (fun HT_ HW_ => ?_)
      generalize w47.drew = w48 at BK153 BK155 HB hHeld ⊢
      refine zP 0 (some 21) q5_1 HT_ ?_
      refine zT 1 (some 22) q5_2 HT_ HW_ hHeld ?_
      refine one_ (i := 2) (N := some 23) q5_3 rfl rfl (one_of HT_.out (by kernel_rfl)) (by decide) (fun K hK => ?_)
      refine zH Try.func48 #[.string ((rd_T45 l0_0 x3_1).f0)] ?_
      with_reducible refine (spec_l03Name.calls ((rd_T45 l0_0 x3_1).f0) true _ A9.out).mono ?_
      rintro e w' ⟨rfl, ⟨nd, rfl⟩⟩
      refine ⟨_, rfl, ?_⟩
      refine hK.out _ _ ⟨zv BK155, zv BK155, zv BK155⟩ (fun hHeld => ?_)
      clear hK K
      refine zN ?_
      refine zP 3 (some 24) q5_4 HT_ ?_
      refine zP 4 (some 25) q5_5 HT_ ?_
      refine zP 5 (some 26) q5_6 HT_ ?_
      refine zT 6 (some 27) q5_7 HT_ HW_ hHeld ?_
      refine zP 7 (some 28) q5_8 HT_ ?_
      refine zP 8 (some 29) q5_9 HT_ ?_
      refine zP 9 (some 30) q5_10 HT_ ?_
      refine zP 10 (some 31) q5_11 HT_ ?_
      refine zP 11 (some 32) q5_12 HT_ ?_
      refine zP 13 (some 34) q5_36 HT_ ?_
      refine zT 12 (some 33) q5_14 HT_ HW_ hHeld ?_
      refine zT 14 (some 35) q5_15 HT_ HW_ hHeld ?_
      refine zP 15 (some 36) q5_16 HT_ ?_
      refine one_ (i := 16) (N := some 37) q5_17 rfl rfl (one_of HT_.out (by kernel_rfl)) (by decide) (fun K hK => ?_)
      refine zH Try.func49 #[.int .i64 ((rd_T45 l0_0 x3_1).f2), .int .i64 0, .int .i64 (((rd_T45 l0_0 x3_1).f1).size : Int)] ?_
      with_reducible refine (spec_l01In.calls ((rd_T45 l0_0 x3_1).f2) 0 (((rd_T45 l0_0 x3_1).f1).size : Int) false _ A18.out).mono ?_
      rintro e w' ⟨rfl, ⟨nd, rfl⟩⟩
      refine ⟨_, rfl, ?_⟩
      refine hK.out _ _ ⟨zv BK155, zv BK155, zv BK155⟩ (fun hHeld => ?_)
      clear hK K
      refine zN ?_
      refine zP 17 (some 38) q5_18 HT_ ?_
      refine zP 18 (some 39) q5_19 HT_ ?_
      refine zP 19 (some 40) q5_20 HT_ ?_
      refine zU_ 20 (some 41) q5_21 HT_ ?_
      refine zU_ 21 (some 42) q5_22 HT_ ?_
      refine zU_ 22 (some 43) q5_23 HT_ ?_
      refine zU_ 23 (some 44) q5_24 HT_ ?_
      refine zU_ 24 (some 45) q5_25 HT_ ?_
      refine zU_ 25 (some 46) q5_26 HT_ ?_
      refine zU_ 26 (some 47) q5_27 HT_ ?_
      refine zU_ 27 (some 48) q5_28 HT_ ?_
      refine zU_ 28 (some 49) q5_29 HT_ ?_
      refine zU_ 29 (some 50) q5_30 HT_ ?_
      refine zU_ 30 (some 51) q5_31 HT_ ?_
      refine zU_ 31 (some 52) q5_32 HT_ ?_
      refine zU_ 32 (some 53) q5_33 HT_ ?_
      refine zU_ 33 (some 54) q5_34 HT_ ?_
      refine zP 34 (some 55) q5_35 HT_ ?_
      refine done_ (done_of HT_.out (by kernel_rfl)) ?_
      try go_wp2
      go_ret
      exact ⟨ze, zw HB⟩
     replace c10 := Bool.eq_false_iff.mpr c10
     subst c10
     rw [if_neg (show ¬ (false = true) by decide)] at H
     obtain rfl := Option.some.inj H
     obtain ⟨m49_0, n49_0⟩ := zc1 BK153
     have p154 : 0 ≤ (x3_1 : Int) := of_decide_eq_true za
     have q154 : x3_1 < (l0_0.length : Int) := of_decide_eq_true za
     obtain ⟨ad154, e154, hx154_0, hx154_1, hx154_2⟩ := at_T45 HR0_0.out x3_1 p154 q154
     cases e154
     replace hx154_0 := zU HB.out hx154_0
     replace hx154_1 := zU HB.out hx154_1
     replace hx154_2 := zU HB.out hx154_2
     replace p154 := eq_true p154
     replace q154 := eq_true q154
     try go_wp2_with (first | ((with_reducible refine gate_dst (N := 4) rfl ?_); (try (refine gate_guard (by rfl) ?_; dsimp only)); refine zx (N := 4) (cs := #[.string (⟨#[]⟩ : ByteArray), .string (⟨#[]⟩ : ByteArray), .int .i64 0]) (t := 45) ?_; intro gb155 hg w50 hbox hb; have BK155 := Aside0.mk (hbox); have GW155 := zg HB hg; have GE155 := zg HB hg; replace HB := zs HB hb; have NB153_155 := zl BK153 hg; have NB155_153 := zr BK153 hg; replace BK153 := zb BK153 hb; clear hb hbox hg; have hnb51 := NB155_153.out; have hnc51 := NB153_155.out; obtain ⟨m52_0, m52_1, m52_2, n52_0, n52_1, n52_2⟩ := zc3 BK155))
     have n0_ : Aside0 ((((w50.setCell ⟨gb155, 0, none⟩ (.string ((rd_T45 l0_0 x3_1).f0))).setCell ⟨gb155, 1, none⟩ (.string ((rd_T45 l0_0 x3_1).f1))).setCell ⟨gb155, 2, none⟩ (.int .i64 ((rd_T45 l0_0 x3_1).f2))).heap[gb153]? = some (.cells #[.slice (some ad154) l0_0.length c0_0] 29 (0, 0))) := ⟨zkf BK153⟩
     have n1_ : Aside0 ((((w50.setCell ⟨gb155, 0, none⟩ (.string ((rd_T45 l0_0 x3_1).f0))).setCell ⟨gb155, 1, none⟩ (.string ((rd_T45 l0_0 x3_1).f1))).setCell ⟨gb155, 2, none⟩ (.int .i64 ((rd_T45 l0_0 x3_1).f2))).heap[gb155]? = some (.cells #[.string ((rd_T45 l0_0 x3_1).f0), .string ((rd_T45 l0_0 x3_1).f1), .int .i64 ((rd_T45 l0_0 x3_1).f2)] 45 (0, 0))) := ⟨by (with_reducible repeat (first | refine blk_drewN ?_ _ | refine blk_drew ?_ | refine blk_alloc ?_ _)); refine blk_put (cs := #[.string ((rd_T45 l0_0 x3_1).f0), .string ((rd_T45 l0_0 x3_1).f1), .int .i64 0]) ?_ 2 _ rfl; (with_reducible repeat (first | refine blk_drewN ?_ _ | refine blk_drew ?_ | refine blk_alloc ?_ _)); refine blk_put (cs := #[.string ((rd_T45 l0_0 x3_1).f0), .string (⟨#[]⟩ : ByteArray), .int .i64 0]) ?_ 1 _ rfl; (with_reducible repeat (first | refine blk_drewN ?_ _ | refine blk_drew ?_ | refine blk_alloc ?_ _)); refine blk_put (cs := #[.string (⟨#[]⟩ : ByteArray), .string (⟨#[]⟩ : ByteArray), .int .i64 0]) ?_ 0 _ rfl; (with_reducible repeat (first | refine blk_drewN ?_ _ | refine blk_drew ?_ | refine blk_alloc ?_ _)); exact BK155.out⟩
     have n2_ : Aside0 (Below w.heap.size w (((w50.setCell ⟨gb155, 0, none⟩ (.string ((rd_T45 l0_0 x3_1).f0))).setCell ⟨gb155, 1, none⟩ (.string ((rd_T45 l0_0 x3_1).f1))).setCell ⟨gb155, 2, none⟩ (.int .i64 ((rd_T45 l0_0 x3_1).f2)))) := ⟨zw HB⟩
     (try clear BK153)
     (try clear BK155)
     (try clear HB)
     generalize (((w50.setCell ⟨gb155, 0, none⟩ (.string ((rd_T45 l0_0 x3_1).f0))).setCell ⟨gb155, 1, none⟩ (.string ((rd_T45 l0_0 x3_1).f1))).setCell ⟨gb155, 2, none⟩ (.int .i64 ((rd_T45 l0_0 x3_1).f2))) = w53 at n0_ n1_ n2_ ⊢
     have BK153 := n0_
     have BK155 := n1_
     have HB := n2_
     clear n0_ n1_ n2_
     replace BK153 := Aside0.mk (blk_drew BK153.out)
     replace BK155 := Aside0.mk (blk_drew BK155.out)
     replace HB := Aside0.mk (below_drew1 HB.out)
     refine start_ (n := 35) (S := fun w' => w'.cell? ⟨gb155, 0, none⟩ = some (.string ((rd_T45 l0_0 x3_1).f0)) ∧ w'.cell? ⟨gb155, 1, none⟩ = some (.string ((rd_T45 l0_0 x3_1).f1)) ∧ w'.cell? ⟨gb155, 2, none⟩ = some (.int .i64 ((rd_T45 l0_0 x3_1).f2))) (ds := []) q5_0 (by kernel_rfl) rfl rfl ⟨zv BK155, zv BK155, zv BK155⟩ (fun hHeld => ?_); refine with_tabW spec_DiskOk.tab7 spec_DiskOk.bits7 (fun HT_ HW_ => ?_)
     generalize w53.drew = w54 at BK153 BK155 HB hHeld ⊢
     refine zP 0 (some 21) q5_1 HT_ ?_
     refine zT 1 (some 22) q5_2 HT_ HW_ hHeld ?_
     refine one_ (i := 2) (N := some 23) q5_3 rfl rfl (one_of HT_.out (by kernel_rfl)) (by decide) (fun K hK => ?_)
     refine zH Try.func48 #[.string ((rd_T45 l0_0 x3_1).f0)] ?_
     with_reducible refine (spec_l03Name.calls ((rd_T45 l0_0 x3_1).f0) false _ A9.out).mono ?_
     rintro e w' ⟨rfl, ⟨nd, rfl⟩⟩
     refine ⟨_, rfl, ?_⟩
     refine hK.out _ _ ⟨zv BK155, zv BK155, zv BK155⟩ (fun hHeld => ?_)
     clear hK K
     refine zN ?_
     refine zP 3 (some 24) q5_4 HT_ ?_
     refine zP 4 (some 25) q5_5 HT_ ?_
     refine zU_ 5 (some 26) q5_6 HT_ ?_
     refine zU_ 6 (some 27) q5_7 HT_ ?_
     refine zU_ 7 (some 28) q5_8 HT_ ?_
     refine zU_ 8 (some 29) q5_9 HT_ ?_
     refine zP 9 (some 30) q5_10 HT_ ?_
     refine zP 10 (some 31) q5_11 HT_ ?_
     refine zU_ 11 (some 32) q5_12 HT_ ?_
     refine zU_ 12 (some 33) q5_13 HT_ ?_
     refine zU_ 13 (some 34) q5_14 HT_ ?_
     refine zU_ 14 (some 35) q5_15 HT_ ?_
     refine zU_ 15 (some 36) q5_16 HT_ ?_
     refine zU_ 16 (some 37) q5_17 HT_ ?_
     refine zU_ 17 (some 38) q5_18 HT_ ?_
     refine zP 18 (some 39) q5_19 HT_ ?_
     refine zP 19 (some 40) q5_20 HT_ ?_
     refine zU_ 20 (some 41) q5_21 HT_ ?_
     refine zU_ 21 (some 42) q5_22 HT_ ?_
     refine zU_ 22 (some 43) q5_23 HT_ ?_
     refine zU_ 23 (some 44) q5_24 HT_ ?_
     refine zU_ 24 (some 45) q5_25 HT_ ?_
     refine zU_ 25 (some 46) q5_26 HT_ ?_
     refine zU_ 26 (some 47) q5_27 HT_ ?_
     refine zU_ 27 (some 48) q5_28 HT_ ?_
     refine zU_ 28 (some 49) q5_29 HT_ ?_
     refine zU_ 29 (some 50) q5_30 HT_ ?_
     refine zU_ 30 (some 51) q5_31 HT_ ?_
     refine zU_ 31 (some 52) q5_32 HT_ ?_
     refine zU_ 32 (some 53) q5_33 HT_ ?_
     refine zU_ 33 (some 54) q5_34 HT_ ?_
     refine zP 34 (some 55) q5_35 HT_ ?_
     refine done_ (done_of HT_.out (by kernel_rfl)) ?_
     try go_wp2
     go_ret
     exact ⟨ze, zw HB⟩
    rw [if_neg c8] at H
    exact absurd H (by simp)
   rw [if_neg c7] at H
   have c7b0 := decide_eq_false c7
   clear c7
   obtain rfl := Option.some.inj H
   obtain ⟨m55_0, n55_0⟩ := zc1 BK153
   go_wp2
   go_ret
   exact ⟨ze, zw HB⟩

end Go.Proofs.Ytdiecogmaiglaaa.PFnExactDoActs
