import Derived.Test.YtdiecogmaiglaaaQFnActsx0
import Derived.Test.YtdiecogmaiglaaaQFnActsx6
namespace Go.Proofs.Ytdiecogmaiglaaa.PFnActs
open Go.RowKit Go.Proofs.YtdiecogmaiglaaaW.PrintWords Go.Proofs.YtdiecogmaiglaaaW.PrintLast Go.Proofs.YtdiecogmaiglaaaW.PrintMore
attribute [local go_sem] max2_int min2_int max_two min_two max_three min_three max_four min_four   -- for this text's walks alone
set_option linter.unusedVariables false
set_option linter.unusedSimpArgs false

/-! ### spec_DiskOk: function 13 -/
def spec_DiskOk.l0 : Nat → Int → List (S45) → Option (Bool)
 | 0, _, _ => none
 | k + 1, x3, x161000 => if x3 < (x161000.length : Int) then (if 0 ≤ x3 then ((spec_l03Name.f ((rd_T45 x161000 x3).f0)).bind fun t163 => (if t163 = true then (if (((rd_T45 x161000 x3).f1).size : Int) > 20000 then (some false) else ((spec_l01In.f ((rd_T45 x161000 x3).f2) 0 (((rd_T45 x161000 x3).f1).size : Int)).bind fun t164 => (if t164 = true then (if x3 > 0 then (if 0 ≤ (wrap64 (x3 - 1)) then (if (wrap64 (x3 - 1)) < (x161000.length : Int) then (if ((Op.bytesLess (((rd_T45 x161000 (wrap64 (x3 - 1))).f0).toList) (((rd_T45 x161000 x3).f0).toList)) = true) then (spec_DiskOk.l0 k (wrap64 (x3 + 1)) x161000) else (some false)) else (none)) else (none)) else (spec_DiskOk.l0 k (wrap64 (x3 + 1)) x161000)) else (some false)))) else (some false))) else (none)) else (some true)
def spec_DiskOk.f (k : Nat) (l0_0 : List (S45)) : Option (Bool) := if (l0_0.length : Int) > 30 then (some false) else (spec_DiskOk.l0 k 0 l0_0)
theorem spec_DiskOk.mono_l : ∀ k, (∀ y0 y1, LeO (spec_DiskOk.l0 k y0 y1) (spec_DiskOk.l0 (k + 1) y0 y1))
 | 0 => fun _ _ r h => by simp [spec_DiskOk.l0] at h
 | k + 1 => by
  have ih0 := spec_DiskOk.mono_l k
  intro y0 y1
  unfold spec_DiskOk.l0
  repeat' first
  | (with_reducible exact ih0 _ _)
  | (with_reducible exact LeO.refl _)
  | (with_reducible exact LeO.none _)
  | (with_reducible refine LeO.ite ?_ ?_)
  | (with_reducible refine LeO.bind ?_ (fun _ => ?_))
  | exact ih0 _ _
  | exact LeO.none _
  | refine LeO.ite ?_ ?_
  | refine LeO.bind ?_ (fun _ => ?_)
theorem spec_DiskOk.mono : ∀ a0 k, LeO (spec_DiskOk.f k a0) (spec_DiskOk.f (k + 1) a0) := by
 intro a0 k
 have ih0 := spec_DiskOk.mono_l k
 unfold spec_DiskOk.f
 repeat' first
   | (with_reducible exact ih0 _ _)
   | (with_reducible exact LeO.refl _)
   | (with_reducible exact LeO.none _)
   | (with_reducible refine LeO.ite ?_ ?_)
   | (with_reducible refine LeO.bind ?_ (fun _ => ?_))
   | exact ih0 _ _
   | exact LeO.none _
   | refine LeO.ite ?_ ?_
   | refine LeO.bind ?_ (fun _ => ?_)
def spec_DiskOk.T7 : Bool × List (List Nat × List Nat) := (true, [([], []), ([0], [0]), ([1], [1]), ([2], [2]), ([3, 2], [3]), ([4], [4]), ([5, 4], [4, 5]), ([6, 4], [4, 6]), ([7, 4], [4, 7]), ([4, 8], [4, 8]), ([9, 4], [9]), ([10], [10]), ([11, 10], [10, 11]), ([10], [10]), ([13, 10], [10, 13]), ([14, 10], [10, 14]), ([12, 15, 10, 10], [10, 12, 15]), ([16, 10], [10, 16]), ([10, 17], [10, 17]), ([18, 16], [18]), ([19], [19]), ([20, 19], [19, 20]), ([21, 19, 19], [19, 21]), ([22], [22]), ([23, 22], [22, 23]), ([22], [22]), ([25, 22], [22, 25]), ([24, 26, 22], [22, 24, 26]), ([27, 22], [22, 27]), ([28, 22], [22, 28]), ([22], [22]), ([30, 22], [22, 30]), ([29, 31, 22], [22, 29, 31]), ([22, 32, 19], [19, 22, 32]), ([19, 33], [19, 33])])
def spec_DiskOk.B7 : List Nat := [0, 1, 3, 7, 15, 31, 63, 127, 255, 511, 1023, 2047, 4095, 2047, 10239, 26623, 65535, 131071, 262143, 524287, 1048575, 2097151, 4194303, 8388607, 16777215, 8388607, 41943039, 134217727, 268435455, 536870911, 8388607, 1082130431, 4294967295, 8589934591, 17179869183]
theorem spec_DiskOk.tab7 : rtab .any (opsOf Try.f13 7) = spec_DiskOk.T7 := by kernel_rfl
theorem spec_DiskOk.bits7 : waitsOk spec_DiskOk.T7.2 spec_DiskOk.B7 = true := by kernel_rfl
abbrev q7_0 := #[o_,o_,o_,o_,o_,o_,o_,o_,o_,o_,o_,o_,o_,o_,o_,o_,o_,o_,o_,o_,o_,o_,o_,o_,o_,o_,o_,o_,o_,o_,o_,o_,o_,o_,o_]
abbrev q7_1 := #[i_,o_,o_,o_,o_,o_,o_,o_,o_,o_,o_,o_,o_,o_,o_,o_,o_,o_,o_,o_,o_,o_,o_,o_,o_,o_,o_,o_,o_,o_,o_,o_,o_,o_,o_]
abbrev q7_2 := #[i_,i_,o_,o_,o_,o_,o_,o_,o_,o_,o_,o_,o_,o_,o_,o_,o_,o_,o_,o_,o_,o_,o_,o_,o_,o_,o_,o_,o_,o_,o_,o_,o_,o_,o_]
abbrev q7_3 := #[i_,i_,i_,o_,o_,o_,o_,o_,o_,o_,o_,o_,o_,o_,o_,o_,o_,o_,o_,o_,o_,o_,o_,o_,o_,o_,o_,o_,o_,o_,o_,o_,o_,o_,o_]
abbrev q7_4 := #[i_,i_,i_,i_,o_,o_,o_,o_,o_,o_,o_,o_,o_,o_,o_,o_,o_,o_,o_,o_,o_,o_,o_,o_,o_,o_,o_,o_,o_,o_,o_,o_,o_,o_,o_]
abbrev q7_5 := #[i_,i_,i_,i_,i_,o_,o_,o_,o_,o_,o_,o_,o_,o_,o_,o_,o_,o_,o_,o_,o_,o_,o_,o_,o_,o_,o_,o_,o_,o_,o_,o_,o_,o_,o_]
abbrev q7_6 := #[i_,i_,i_,i_,i_,i_,o_,o_,o_,o_,o_,o_,o_,o_,o_,o_,o_,o_,o_,o_,o_,o_,o_,o_,o_,o_,o_,o_,o_,o_,o_,o_,o_,o_,o_]
abbrev q7_7 := #[i_,i_,i_,i_,i_,i_,i_,o_,o_,o_,o_,o_,o_,o_,o_,o_,o_,o_,o_,o_,o_,o_,o_,o_,o_,o_,o_,o_,o_,o_,o_,o_,o_,o_,o_]
abbrev q7_8 := #[i_,i_,i_,i_,i_,i_,i_,i_,o_,o_,o_,o_,o_,o_,o_,o_,o_,o_,o_,o_,o_,o_,o_,o_,o_,o_,o_,o_,o_,o_,o_,o_,o_,o_,o_]
abbrev q7_9 := #[i_,i_,i_,i_,i_,i_,i_,i_,i_,o_,o_,o_,o_,o_,o_,o_,o_,o_,o_,o_,o_,o_,o_,o_,o_,o_,o_,o_,o_,o_,o_,o_,o_,o_,o_]
abbrev q7_10 := #[i_,i_,i_,i_,i_,i_,i_,i_,i_,i_,o_,o_,o_,o_,o_,o_,o_,o_,o_,o_,o_,o_,o_,o_,o_,o_,o_,o_,o_,o_,o_,o_,o_,o_,o_]
abbrev q7_11 := #[i_,i_,i_,i_,i_,i_,i_,i_,i_,i_,i_,o_,o_,o_,o_,o_,o_,o_,o_,o_,o_,o_,o_,o_,o_,o_,o_,o_,o_,o_,o_,o_,o_,o_,o_]
abbrev q7_12 := #[i_,i_,i_,i_,i_,i_,i_,i_,i_,i_,i_,i_,o_,o_,o_,o_,o_,o_,o_,o_,o_,o_,o_,o_,o_,o_,o_,o_,o_,o_,o_,o_,o_,o_,o_]
abbrev q7_13 := #[i_,i_,i_,i_,i_,i_,i_,i_,i_,i_,i_,i_,i_,o_,o_,o_,o_,o_,o_,o_,o_,o_,o_,o_,o_,o_,o_,o_,o_,o_,o_,o_,o_,o_,o_]
abbrev q7_14 := #[i_,i_,i_,i_,i_,i_,i_,i_,i_,i_,i_,i_,i_,i_,o_,o_,o_,o_,o_,o_,o_,o_,o_,o_,o_,o_,o_,o_,o_,o_,o_,o_,o_,o_,o_]
abbrev q7_15 := #[i_,i_,i_,i_,i_,i_,i_,i_,i_,i_,i_,i_,i_,i_,i_,o_,o_,o_,o_,o_,o_,o_,o_,o_,o_,o_,o_,o_,o_,o_,o_,o_,o_,o_,o_]
abbrev q7_16 := #[i_,i_,i_,i_,i_,i_,i_,i_,i_,i_,i_,i_,i_,i_,i_,i_,o_,o_,o_,o_,o_,o_,o_,o_,o_,o_,o_,o_,o_,o_,o_,o_,o_,o_,o_]
abbrev q7_17 := #[i_,i_,i_,i_,i_,i_,i_,i_,i_,i_,i_,i_,i_,i_,i_,i_,i_,o_,o_,o_,o_,o_,o_,o_,o_,o_,o_,o_,o_,o_,o_,o_,o_,o_,o_]
abbrev q7_18 := #[i_,i_,i_,i_,i_,i_,i_,i_,i_,i_,i_,i_,i_,i_,i_,i_,i_,i_,o_,o_,o_,o_,o_,o_,o_,o_,o_,o_,o_,o_,o_,o_,o_,o_,o_]
abbrev q7_19 := #[i_,i_,i_,i_,i_,i_,i_,i_,i_,i_,i_,i_,i_,i_,i_,i_,i_,i_,i_,o_,o_,o_,o_,o_,o_,o_,o_,o_,o_,o_,o_,o_,o_,o_,o_]
abbrev q7_20 := #[i_,i_,i_,i_,i_,i_,i_,i_,i_,i_,i_,i_,i_,i_,i_,i_,i_,i_,i_,i_,o_,o_,o_,o_,o_,o_,o_,o_,o_,o_,o_,o_,o_,o_,o_]
abbrev q7_21 := #[i_,i_,i_,i_,i_,i_,i_,i_,i_,i_,i_,i_,i_,i_,i_,i_,i_,i_,i_,i_,i_,o_,o_,o_,o_,o_,o_,o_,o_,o_,o_,o_,o_,o_,o_]
abbrev q7_22 := #[i_,i_,i_,i_,i_,i_,i_,i_,i_,i_,i_,i_,i_,i_,i_,i_,i_,i_,i_,i_,i_,i_,o_,o_,o_,o_,o_,o_,o_,o_,o_,o_,o_,o_,o_]
abbrev q7_23 := #[i_,i_,i_,i_,i_,i_,i_,i_,i_,i_,i_,i_,i_,i_,i_,i_,i_,i_,i_,i_,i_,i_,i_,o_,o_,o_,o_,o_,o_,o_,o_,o_,o_,o_,o_]
abbrev q7_24 := #[i_,i_,i_,i_,i_,i_,i_,i_,i_,i_,i_,i_,i_,i_,i_,i_,i_,i_,i_,i_,i_,i_,i_,i_,o_,o_,o_,o_,o_,o_,o_,o_,o_,o_,o_]
abbrev q7_25 := #[i_,i_,i_,i_,i_,i_,i_,i_,i_,i_,i_,i_,i_,i_,i_,i_,i_,i_,i_,i_,i_,i_,i_,i_,i_,o_,o_,o_,o_,o_,o_,o_,o_,o_,o_]
abbrev q7_26 := #[i_,i_,i_,i_,i_,i_,i_,i_,i_,i_,i_,i_,i_,i_,i_,i_,i_,i_,i_,i_,i_,i_,i_,i_,i_,i_,o_,o_,o_,o_,o_,o_,o_,o_,o_]
abbrev q7_27 := #[i_,i_,i_,i_,i_,i_,i_,i_,i_,i_,i_,i_,i_,i_,i_,i_,i_,i_,i_,i_,i_,i_,i_,i_,i_,i_,i_,o_,o_,o_,o_,o_,o_,o_,o_]
abbrev q7_28 := #[i_,i_,i_,i_,i_,i_,i_,i_,i_,i_,i_,i_,i_,i_,i_,i_,i_,i_,i_,i_,i_,i_,i_,i_,i_,i_,i_,i_,o_,o_,o_,o_,o_,o_,o_]
abbrev q7_29 := #[i_,i_,i_,i_,i_,i_,i_,i_,i_,i_,i_,i_,i_,i_,i_,i_,i_,i_,i_,i_,i_,i_,i_,i_,i_,i_,i_,i_,i_,o_,o_,o_,o_,o_,o_]
abbrev q7_30 := #[i_,i_,i_,i_,i_,i_,i_,i_,i_,i_,i_,i_,i_,i_,i_,i_,i_,i_,i_,i_,i_,i_,i_,i_,i_,i_,i_,i_,i_,i_,o_,o_,o_,o_,o_]
abbrev q7_31 := #[i_,i_,i_,i_,i_,i_,i_,i_,i_,i_,i_,i_,i_,i_,i_,i_,i_,i_,i_,i_,i_,i_,i_,i_,i_,i_,i_,i_,i_,i_,i_,o_,o_,o_,o_]
abbrev q7_32 := #[i_,i_,i_,i_,i_,i_,i_,i_,i_,i_,i_,i_,i_,i_,i_,i_,i_,i_,i_,i_,i_,i_,i_,i_,i_,i_,i_,i_,i_,i_,i_,i_,o_,o_,o_]
abbrev q7_33 := #[i_,i_,i_,i_,i_,i_,i_,i_,i_,i_,i_,i_,i_,i_,i_,i_,i_,i_,i_,i_,i_,i_,i_,i_,i_,i_,i_,i_,i_,i_,i_,i_,i_,o_,o_]
abbrev q7_34 := #[i_,i_,i_,i_,i_,i_,i_,i_,i_,i_,i_,i_,i_,i_,i_,i_,i_,i_,i_,i_,i_,i_,i_,i_,i_,i_,i_,i_,i_,i_,i_,i_,i_,i_,o_]
abbrev q7_35 := #[i_,i_,i_,i_,i_,i_,i_,i_,i_,i_,i_,i_,i_,i_,i_,i_,i_,i_,i_,i_,i_,i_,i_,i_,i_,i_,i_,i_,i_,i_,i_,i_,i_,i_,i_]
abbrev q7_36 := #[i_,i_,i_,i_,i_,i_,i_,i_,i_,i_,i_,i_,o_,i_,o_,o_,o_,o_,o_,o_,o_,o_,o_,o_,o_,o_,o_,o_,o_,o_,o_,o_,o_,o_,o_]
abbrev q7_37 := #[i_,i_,i_,i_,i_,i_,i_,i_,i_,i_,i_,i_,i_,i_,i_,i_,i_,i_,i_,i_,i_,i_,i_,i_,o_,i_,o_,o_,o_,o_,o_,o_,o_,o_,o_]
abbrev q7_38 := #[i_,i_,i_,i_,i_,i_,i_,i_,i_,i_,i_,i_,i_,i_,i_,i_,i_,i_,i_,i_,i_,i_,i_,i_,o_,i_,i_,o_,o_,o_,o_,o_,o_,o_,o_]
abbrev q7_39 := #[i_,i_,i_,i_,i_,i_,i_,i_,i_,i_,i_,i_,i_,i_,i_,i_,i_,i_,i_,i_,i_,i_,i_,i_,o_,i_,i_,o_,o_,o_,i_,o_,o_,o_,o_]
abbrev q7_40 := #[i_,i_,i_,i_,i_,i_,i_,i_,i_,i_,i_,i_,i_,i_,i_,i_,i_,i_,i_,i_,i_,i_,i_,i_,i_,i_,i_,o_,o_,o_,i_,o_,o_,o_,o_]
abbrev q7_41 := #[i_,i_,i_,i_,i_,i_,i_,i_,i_,i_,i_,i_,i_,i_,i_,i_,i_,i_,i_,i_,i_,i_,i_,i_,i_,i_,i_,i_,o_,o_,i_,o_,o_,o_,o_]
abbrev q7_42 := #[i_,i_,i_,i_,i_,i_,i_,i_,i_,i_,i_,i_,i_,i_,i_,i_,i_,i_,i_,i_,i_,i_,i_,i_,i_,i_,i_,i_,i_,o_,i_,o_,o_,o_,o_]
set_option maxHeartbeats 8000000 in
set_option maxRecDepth 100000 in
theorem spec_DiskOk.calls (k : Nat) (A0_0 : Option Addr) (c0_0 : Nat) (l0_0 : List (S45)) (r : Bool) (w : World) (hr0_0 : Kd.C k45 w A0_0 l0_0.length l0_0) (hc0_0 : l0_0.length ≤ c0_0) (h : spec_DiskOk.f k l0_0 = some r) :
  Calls Try.prog 13 #[.agg #[.slice A0_0 l0_0.length c0_0]] w fun e w' => e = .returned (.bool r) ∧ Below w.heap.size w w' := by
 have hu29 := Try.underlying29
 have hu45 := Try.underlying45
 have HR0_0 := Aside0.mk hr0_0
 have HC0_0 := Aside0.mk hc0_0
 clear hr0_0 hc0_0
 have HB := Aside0.mk (Below.refl w.heap.size w)
 have H : (if (l0_0.length : Int) > 30 then (some false) else (spec_DiskOk.l0 k 0 l0_0)) = some r := h
 clear h
 by_cases c2 : (l0_0.length : Int) > 30
 ·rw [if_pos c2] at H
  have Bi : decide (30 < (l0_0.length : Int)) = true := decide_eq_true c2
  have Bh : decide (30 < l0_0.length) = true := decide_eq_true (by omega)
  clear c2
  obtain rfl := Option.some.inj H
  go_enter Try.func13, Try.ntmps13
  go_wp2_with (first | ((with_reducible refine gate_dst (N := 1) rfl ?_); (try (refine gate_guard (by rfl) ?_; dsimp only)); refine zx (N := 1) (cs := #[.slice A0_0 l0_0.length c0_0]) (t := 29) ?_; intro Bb hg w3 hbox hb; have Ac := Aside0.mk (hbox); have Bn := zg HB hg; have Bo := zg HB hg; replace HB := zs HB hb; clear hb hbox hg; obtain ⟨B2, B0⟩ := zc1 Ac))
  go_ret
  exact ⟨ze, zw HB⟩
 rw [if_neg c2] at H
 have Bi : decide (30 < (l0_0.length : Int)) = false := decide_eq_false c2
 have Bh : decide (30 < l0_0.length) = false := decide_eq_false (by omega)
 clear c2
 have H' := Aside0.mk H
 clear H
 go_enter Try.func13, Try.ntmps13
 go_wp2_with (first | ((with_reducible refine gate_dst (N := 1) rfl ?_); (try (refine gate_guard (by rfl) ?_; dsimp only)); refine zx (N := 1) (cs := #[.slice A0_0 l0_0.length c0_0]) (t := 29) ?_; intro Bb hg w5 hbox hb; have Ac := Aside0.mk (hbox); have Bn := zg HB hg; have Bo := zg HB hg; replace HB := zs HB hb; clear hb hbox hg; obtain ⟨B1, Bz⟩ := zc1 Ac))
 go_loopg [3] k (fun kq v3 w' => ∃ (Ab : Int), v3 = .int .i64 Ab ∧ Aside0 (spec_DiskOk.l0 kq Ab l0_0 = some r) ∧ Aside0 (kq ≤ k) ∧ Aside0 (w'.heap[Bb]? = some (.cells #[(.slice A0_0 l0_0.length c0_0)] 29 (0, 0))) ∧ Aside0 (Below w.heap.size w w'))
 case atStart => exact ⟨(0), zf, H', ⟨Nat.le_refl _⟩, ⟨zkf Ac⟩, ⟨zw HB⟩⟩
 case round =>
  clear H'
  try clear c1
  try clear c2
  try clear Bi
  try clear Bh
  try clear p2
  try clear B2
  try clear B1
  try clear B0
  try clear Bz
  obtain ⟨Ab, rfl, HA, Bv, Ac, HB⟩ := hrel
  cases gk with
  | zero => exact absurd HA.out (by simp [spec_DiskOk.l0])
  | succ k1 =>
   have H := HA.out
   clear HA
   simp only [spec_DiskOk.l0] at H
   by_cases c7 : Ab < (l0_0.length : Int)
   ·rw [if_pos c7] at H
    have B8 := decide_eq_true c7
    clear c7
    by_cases c8 : 0 ≤ Ab
    ·rw [if_pos c8] at H
     have c8b0 := decide_eq_true c8
     clear c8
     replace H := Option.bind_eq_some_iff.mp H
     obtain ⟨Bx, Cg, H⟩ := H
     have A9 := Aside0.mk Cg
     clear Cg
     by_cases Bu : Bx = true
     ·subst Bu
      rw [if_pos rfl] at H
      by_cases Bg : (((rd_T45 l0_0 Ab).f1).size : Int) > 20000
      ·rw [if_pos Bg] at H
       have Bm : decide (20000 < (((rd_T45 l0_0 Ab).f1).size : Int)) = true := decide_eq_true Bg
       have Bl : decide (20000 < ((rd_T45 l0_0 Ab).f1).size) = true := decide_eq_true (by omega)
       clear Bg
       obtain rfl := Option.some.inj H
       obtain ⟨_, _⟩ := zc1 Ac
       have Aq : 0 ≤ (Ab : Int) := of_decide_eq_true za
       have Ap : Ab < (l0_0.length : Int) := of_decide_eq_true za
       obtain ⟨Ak, Aw, Ag, Af, Ae⟩ := at_T45 HR0_0.out Ab Aq Ap
       cases Aw
       replace Ag := zU HB.out Ag
       replace Af := zU HB.out Af
       replace Ae := zU HB.out Ae
       replace Aq := eq_true Aq
       replace Ap := eq_true Ap
       try go_wp2_with (first | ((with_reducible refine gate_dst (N := 4) rfl ?_); (try (refine gate_guard (by rfl) ?_; dsimp only)); refine zx (N := 4) (cs := #[.string (⟨#[]⟩ : ByteArray), .string (⟨#[]⟩ : ByteArray), .int .i64 0]) (t := 45) ?_; intro Ad hg Cm hbox hb; have Aa := Aside0.mk (hbox); have Ax := zg HB hg; have Ay := zg HB hg; replace HB := zs HB hb; have Ai := zl Ac hg; have Ah := zr Ac hg; replace Ac := zb Ac hb; clear hb hbox hg; have hnb14 := Ah.out; have hnc14 := Ai.out; obtain ⟨_, _, _, _, _, _⟩ := zc3 Aa))
       obtain ⟨Cf, hq_⟩ : ∃ v_, ((Cm.setCell ⟨Ad, 0, none⟩ (.string ((rd_T45 l0_0 Ab).f0))).setCell ⟨Ad, 1, none⟩ (.string ((rd_T45 l0_0 Ab).f1))).setCell ⟨Ad, 2, none⟩ (.int .i64 ((rd_T45 l0_0 Ab).f2)) = v_ := ⟨_, rfl⟩
       replace Ac := zjq hq_ Ac
       replace Aa : Aside0 (Cf.heap[Ad]? = some (.cells #[.string ((rd_T45 l0_0 Ab).f0), .string ((rd_T45 l0_0 Ab).f1), .int .i64 ((rd_T45 l0_0 Ab).f2)] 45 (0, 0))) := ⟨hq_ ▸ (zj Aa)⟩
       replace HB := zwq hq_ HB
       (try rw [hq_])
       clear hq_
       replace Ac := zd1 Ac
       replace Aa := zd1 Aa
       replace HB := zd2 HB
       refine start_ (n := 35) (S := fun w' => w'.cell? ⟨Ad, 0, none⟩ = some (.string ((rd_T45 l0_0 Ab).f0)) ∧ w'.cell? ⟨Ad, 1, none⟩ = some (.string ((rd_T45 l0_0 Ab).f1)) ∧ w'.cell? ⟨Ad, 2, none⟩ = some (.int .i64 ((rd_T45 l0_0 Ab).f2))) (ds := []) q7_0 (by kernel_rfl) rfl rfl ⟨zv Aa, zv Aa, zv Aa⟩ (fun hHeld => ?_); refine with_tabW spec_DiskOk.tab7 spec_DiskOk.bits7 (fun HT_ HW_ => ?_)
       generalize Cf.drew = w17 at Ac Aa HB hHeld ⊢
       refine zP 0 (some 21) q7_1 HT_ ?_
       refine zT 1 (some 22) q7_2 HT_ HW_ hHeld ?_
       refine one_ (i := 2) (N := some 23) q7_3 rfl rfl (one_of HT_.out (by kernel_rfl)) (by decide) (fun K hK => ?_)
       refine zH Try.func48 #[.string ((rd_T45 l0_0 Ab).f0)] ?_
       with_reducible refine (spec_l03Name.calls ((rd_T45 l0_0 Ab).f0) true _ A9.out).mono ?_
       rintro e w' ⟨rfl, ⟨nd, rfl⟩⟩
       refine ⟨_, rfl, ?_⟩
       refine hK.out _ _ ⟨zv Aa, zv Aa, zv Aa⟩ (fun hHeld => ?_)
       clear hK K
       refine zN ?_
       refine zP 3 (some 24) q7_4 HT_ ?_
       refine zP 4 (some 25) q7_5 HT_ ?_
       refine zP 5 (some 26) q7_6 HT_ ?_
       refine zT 6 (some 27) q7_7 HT_ HW_ hHeld ?_
       refine zP 7 (some 28) q7_8 HT_ ?_
       refine zP 8 (some 29) q7_9 HT_ ?_
       refine zP 9 (some 30) q7_10 HT_ ?_
       refine zP 10 (some 31) q7_11 HT_ ?_
       refine zU_ 11 (some 32) q7_12 HT_ ?_
       refine zU_ 12 (some 33) q7_13 HT_ ?_
       refine zU_ 13 (some 34) q7_14 HT_ ?_
       refine zU_ 14 (some 35) q7_15 HT_ ?_
       refine zU_ 15 (some 36) q7_16 HT_ ?_
       refine zU_ 16 (some 37) q7_17 HT_ ?_
       refine zU_ 17 (some 38) q7_18 HT_ ?_
       refine zP 18 (some 39) q7_19 HT_ ?_
       refine zP 19 (some 40) q7_20 HT_ ?_
       refine zU_ 20 (some 41) q7_21 HT_ ?_
       refine zU_ 21 (some 42) q7_22 HT_ ?_
       refine zU_ 22 (some 43) q7_23 HT_ ?_
       refine zU_ 23 (some 44) q7_24 HT_ ?_
       refine zU_ 24 (some 45) q7_25 HT_ ?_
       refine zU_ 25 (some 46) q7_26 HT_ ?_
       refine zU_ 26 (some 47) q7_27 HT_ ?_
       refine zU_ 27 (some 48) q7_28 HT_ ?_
       refine zU_ 28 (some 49) q7_29 HT_ ?_
       refine zU_ 29 (some 50) q7_30 HT_ ?_
       refine zU_ 30 (some 51) q7_31 HT_ ?_
       refine zU_ 31 (some 52) q7_32 HT_ ?_
       refine zU_ 32 (some 53) q7_33 HT_ ?_
       refine zU_ 33 (some 54) q7_34 HT_ ?_
       refine zP 34 (some 55) q7_35 HT_ ?_
       refine done_ (done_of HT_.out (by kernel_rfl)) ?_
       try go_wp2
       go_ret
       exact ⟨ze, zw HB⟩
      rw [if_neg Bg] at H
      have Bm : decide (20000 < (((rd_T45 l0_0 Ab).f1).size : Int)) = false := decide_eq_false Bg
      have Bl : decide (20000 < ((rd_T45 l0_0 Ab).f1).size) = false := decide_eq_false (by omega)
      clear Bg
      replace H := Option.bind_eq_some_iff.mp H
      obtain ⟨Bw, Bp, H⟩ := H
      have Bq := Aside0.mk Bp
      clear Bp
      by_cases Bt : Bw = true
      ·subst Bt
       rw [if_pos rfl] at H
       by_cases Bf : Ab > 0
       ·rw [if_pos Bf] at H
        have Bk : decide (0 < Ab) = true := decide_eq_true Bf
        clear Bf
        obtain ⟨Aj, hji21⟩ : ∃ j_ : Int, (wrap64 (Ab - 1)) = j_ := ⟨_, rfl⟩
        replace H : (if 0 ≤ (Aj) then (if (Aj) < (l0_0.length : Int) then (if ((Op.bytesLess (((rd_T45 l0_0 (Aj)).f0).toList) (((rd_T45 l0_0 Ab).f0).toList)) = true) then (spec_DiskOk.l0 k1 (wrap64 (Ab + 1)) l0_0) else (some false)) else (none)) else (none)) = some r := by first | (rw [hji21] at H; exact H) | (simp only [hji21] at H ⊢; exact H)
        (try rw [hji21] at A9)
        (try rw [hji21] at Bq)
        have hji21w : (IntKind.i64.wrap (Ab - 1)) = Aj := (i64_w _).trans hji21
        by_cases Bs : 0 ≤ (Aj)
        ·rw [if_pos Bs] at H
         have c22b0 := decide_eq_true Bs
         clear Bs
         by_cases Br : (Aj) < (l0_0.length : Int)
         ·rw [if_pos Br] at H
          have c23b0 := decide_eq_true Br
          clear Br
          by_cases Be : ((Op.bytesLess (((rd_T45 l0_0 (Aj)).f0).toList) (((rd_T45 l0_0 Ab).f0).toList)) = true)
          ·rw [if_pos Be] at H
           have Bj : (Op.bytesLess (((rd_T45 l0_0 (Aj)).f0).toList) (((rd_T45 l0_0 Ab).f0).toList)) = true := Be
           clear Be
           have H' := Aside0.mk H
           clear H
           obtain ⟨_, _⟩ := zc1 Ac
           have Aq : 0 ≤ (Ab : Int) := of_decide_eq_true za
           have Ap : Ab < (l0_0.length : Int) := of_decide_eq_true za
           obtain ⟨Ak, Aw, Ag, Af, Ae⟩ := at_T45 HR0_0.out Ab Aq Ap
           cases Aw
           replace Ag := zU HB.out Ag
           replace Af := zU HB.out Af
           replace Ae := zU HB.out Ae
           replace Aq := eq_true Aq
           replace Ap := eq_true Ap
           try go_wp2_with (first | ((with_reducible refine gate_dst (N := 4) rfl ?_); (try (refine gate_guard (by rfl) ?_; dsimp only)); refine zx (N := 4) (cs := #[.string (⟨#[]⟩ : ByteArray), .string (⟨#[]⟩ : ByteArray), .int .i64 0]) (t := 45) ?_; intro Ad hg Cl hbox hb; have Aa := Aside0.mk (hbox); have Ax := zg HB hg; have Ay := zg HB hg; replace HB := zs HB hb; have Ai := zl Ac hg; have Ah := zr Ac hg; replace Ac := zb Ac hb; clear hb hbox hg; have hnb27 := Ah.out; have hnc27 := Ai.out; obtain ⟨_, _, _, _, _, _⟩ := zc3 Aa))
           obtain ⟨Ce, hq_⟩ : ∃ v_, ((Cl.setCell ⟨Ad, 0, none⟩ (.string ((rd_T45 l0_0 Ab).f0))).setCell ⟨Ad, 1, none⟩ (.string ((rd_T45 l0_0 Ab).f1))).setCell ⟨Ad, 2, none⟩ (.int .i64 ((rd_T45 l0_0 Ab).f2)) = v_ := ⟨_, rfl⟩
           replace Ac := zjq hq_ Ac
           replace Aa : Aside0 (Ce.heap[Ad]? = some (.cells #[.string ((rd_T45 l0_0 Ab).f0), .string ((rd_T45 l0_0 Ab).f1), .int .i64 ((rd_T45 l0_0 Ab).f2)] 45 (0, 0))) := ⟨hq_ ▸ (zj Aa)⟩
           replace HB := zwq hq_ HB
           (try rw [hq_])
           clear hq_
           replace Ac := zd1 Ac
           replace Aa := zd1 Aa
           replace HB := zd2 HB
           have Ba : 0 ≤ ((Aj) : Int) := of_decide_eq_true za
           have Az : (Aj) < (l0_0.length : Int) := of_decide_eq_true za
           obtain ⟨Bc, Bd, Ao, Am, Al⟩ := at_T45 HR0_0.out (Aj) Ba Az
           have Ar := Al
           have As := Am
           have Au := Ao
           obtain rfl : Ak = Bc := (by injection Bd)
           replace Ao := zU HB.out Ao
           replace Am := zU HB.out Am
           replace Al := zU HB.out Al
           replace Ba := eq_true Ba
           replace Az := eq_true Az
           refine start_ (n := 35) (S := fun w' => w'.cell? ⟨Ad, 0, none⟩ = some (.string ((rd_T45 l0_0 Ab).f0)) ∧ w'.cell? ⟨Ad, 1, none⟩ = some (.string ((rd_T45 l0_0 Ab).f1)) ∧ w'.cell? ⟨Ad, 2, none⟩ = some (.int .i64 ((rd_T45 l0_0 Ab).f2)) ∧ w'.cell? ⟨Bb, 0, none⟩ = some (.slice (some Ak) l0_0.length c0_0) ∧ w'.cell? (Ak.add (((Aj)).toNat * 3)) = some (.string ((rd_T45 l0_0 (Aj)).f0)) ∧ w'.cell? ⟨(Ak.add (((Aj)).toNat * 3)).block, (Ak.add (((Aj)).toNat * 3)).off + 1, none⟩ = some (.string ((rd_T45 l0_0 (Aj)).f1)) ∧ w'.cell? ⟨(Ak.add (((Aj)).toNat * 3)).block, (Ak.add (((Aj)).toNat * 3)).off + 2, none⟩ = some (.int .i64 ((rd_T45 l0_0 (Aj)).f2))) (ds := []) q7_0 (by kernel_rfl) rfl rfl ⟨zv Aa, zv Aa, zv Aa, zv Ac, (zU HB.out Au), (zU HB.out As), (zU HB.out Ar)⟩ (fun hHeld => ?_); refine with_tabW spec_DiskOk.tab7 spec_DiskOk.bits7 (fun HT_ HW_ => ?_)
           generalize Ce.drew = w30 at Ac Aa HB Ao Am Al hHeld ⊢
           refine zP 0 (some 21) q7_1 HT_ ?_
           refine zT 1 (some 22) q7_2 HT_ HW_ hHeld ?_
           refine one_ (i := 2) (N := some 23) q7_3 rfl rfl (one_of HT_.out (by kernel_rfl)) (by decide) (fun K hK => ?_)
           refine zH Try.func48 #[.string ((rd_T45 l0_0 Ab).f0)] ?_
           with_reducible refine (spec_l03Name.calls ((rd_T45 l0_0 Ab).f0) true _ A9.out).mono ?_
           rintro e w' ⟨rfl, ⟨nd, rfl⟩⟩
           refine ⟨_, rfl, ?_⟩
           refine hK.out _ _ ⟨zv Aa, zv Aa, zv Aa, zv Ac, (zU HB.out Au), (zU HB.out As), (zU HB.out Ar)⟩ (fun hHeld => ?_)
           clear hK K
           refine zN ?_
           refine zP 3 (some 24) q7_4 HT_ ?_
           refine zP 4 (some 25) q7_5 HT_ ?_
           refine zP 5 (some 26) q7_6 HT_ ?_
           refine zT 6 (some 27) q7_7 HT_ HW_ hHeld ?_
           refine zP 7 (some 28) q7_8 HT_ ?_
           refine zP 8 (some 29) q7_9 HT_ ?_
           refine zP 9 (some 30) q7_10 HT_ ?_
           refine zP 10 (some 31) q7_11 HT_ ?_
           refine zP 11 (some 32) q7_12 HT_ ?_
           refine zP 13 (some 34) q7_36 HT_ ?_
           refine zT 12 (some 33) q7_14 HT_ HW_ hHeld ?_
           refine zT 14 (some 35) q7_15 HT_ HW_ hHeld ?_
           refine zP 15 (some 36) q7_16 HT_ ?_
           refine one_ (i := 16) (N := some 37) q7_17 rfl rfl (one_of HT_.out (by kernel_rfl)) (by decide) (fun K hK => ?_)
           refine zH Try.func49 #[.int .i64 ((rd_T45 l0_0 Ab).f2), .int .i64 0, .int .i64 (((rd_T45 l0_0 Ab).f1).size : Int)] ?_
           with_reducible refine (spec_l01In.calls ((rd_T45 l0_0 Ab).f2) 0 (((rd_T45 l0_0 Ab).f1).size : Int) true _ Bq.out).mono ?_
           rintro e w' ⟨rfl, ⟨nd, rfl⟩⟩
           refine ⟨_, rfl, ?_⟩
           refine hK.out _ _ ⟨zv Aa, zv Aa, zv Aa, zv Ac, (zU HB.out Au), (zU HB.out As), (zU HB.out Ar)⟩ (fun hHeld => ?_)
           clear hK K
           refine zN ?_
           refine zP 17 (some 38) q7_18 HT_ ?_
           refine zP 18 (some 39) q7_19 HT_ ?_
           refine zP 19 (some 40) q7_20 HT_ ?_
           refine zP 20 (some 41) q7_21 HT_ ?_
           refine zP 21 (some 42) q7_22 HT_ ?_
           refine zP 22 (some 43) q7_23 HT_ ?_
           refine zP 23 (some 44) q7_24 HT_ ?_
           refine zP 25 (some 46) q7_37 HT_ ?_
           refine zP 26 (some 47) q7_38 HT_ ?_
           refine zP 30 (some 51) q7_39 HT_ ?_
           refine zT 24 (some 45) q7_40 HT_ HW_ hHeld ?_
           refine zP 27 (some 48) q7_41 HT_ ?_
           refine zP 28 (some 49) q7_42 HT_ ?_
           refine zT 29 (some 50) q7_31 HT_ HW_ hHeld ?_
           refine zT 31 (some 52) q7_32 HT_ HW_ hHeld ?_
           refine zP 32 (some 53) q7_33 HT_ ?_
           refine zP 33 (some 54) q7_34 HT_ ?_
           refine zP 34 (some 55) q7_35 HT_ ?_
           refine done_ (done_of HT_.out (by kernel_rfl)) ?_
           try go_wp2
           go_roundg k1
           case measure => have := Bv.out; omega
           case rel => exact ⟨(wrap64 (Ab + 1)), zf, H', ⟨by have := Bv.out; omega⟩, ⟨zkf Ac⟩, ⟨zw HB⟩⟩
          rw [if_neg Be] at H
          have Bj : (Op.bytesLess (((rd_T45 l0_0 (Aj)).f0).toList) (((rd_T45 l0_0 Ab).f0).toList)) = false := by simpa using Be
          clear Be
          obtain rfl := Option.some.inj H
          obtain ⟨_, _⟩ := zc1 Ac
          have Aq : 0 ≤ (Ab : Int) := of_decide_eq_true za
          have Ap : Ab < (l0_0.length : Int) := of_decide_eq_true za
          obtain ⟨Ak, Aw, Ag, Af, Ae⟩ := at_T45 HR0_0.out Ab Aq Ap
          cases Aw
          replace Ag := zU HB.out Ag
          replace Af := zU HB.out Af
          replace Ae := zU HB.out Ae
          replace Aq := eq_true Aq
          replace Ap := eq_true Ap
          try go_wp2_with (first | ((with_reducible refine gate_dst (N := 4) rfl ?_); (try (refine gate_guard (by rfl) ?_; dsimp only)); refine zx (N := 4) (cs := #[.string (⟨#[]⟩ : ByteArray), .string (⟨#[]⟩ : ByteArray), .int .i64 0]) (t := 45) ?_; intro Ad hg Ck hbox hb; have Aa := Aside0.mk (hbox); have Ax := zg HB hg; have Ay := zg HB hg; replace HB := zs HB hb; have Ai := zl Ac hg; have Ah := zr Ac hg; replace Ac := zb Ac hb; clear hb hbox hg; have hnb33 := Ah.out; have hnc33 := Ai.out; obtain ⟨_, _, _, _, _, _⟩ := zc3 Aa))
          obtain ⟨Cd, hq_⟩ : ∃ v_, ((Ck.setCell ⟨Ad, 0, none⟩ (.string ((rd_T45 l0_0 Ab).f0))).setCell ⟨Ad, 1, none⟩ (.string ((rd_T45 l0_0 Ab).f1))).setCell ⟨Ad, 2, none⟩ (.int .i64 ((rd_T45 l0_0 Ab).f2)) = v_ := ⟨_, rfl⟩
          replace Ac := zjq hq_ Ac
          replace Aa : Aside0 (Cd.heap[Ad]? = some (.cells #[.string ((rd_T45 l0_0 Ab).f0), .string ((rd_T45 l0_0 Ab).f1), .int .i64 ((rd_T45 l0_0 Ab).f2)] 45 (0, 0))) := ⟨hq_ ▸ (zj Aa)⟩
          replace HB := zwq hq_ HB
          (try rw [hq_])
          clear hq_
          replace Ac := zd1 Ac
          replace Aa := zd1 Aa
          replace HB := zd2 HB
          have Ba : 0 ≤ ((Aj) : Int) := of_decide_eq_true za
          have Az : (Aj) < (l0_0.length : Int) := of_decide_eq_true za
          obtain ⟨Bc, Bd, Ao, Am, Al⟩ := at_T45 HR0_0.out (Aj) Ba Az
          have Ar := Al
          have As := Am
          have Au := Ao
          obtain rfl : Ak = Bc := (by injection Bd)
          replace Ao := zU HB.out Ao
          replace Am := zU HB.out Am
          replace Al := zU HB.out Al
          replace Ba := eq_true Ba
          replace Az := eq_true Az
          refine start_ (n := 35) (S := fun w' => w'.cell? ⟨Ad, 0, none⟩ = some (.string ((rd_T45 l0_0 Ab).f0)) ∧ w'.cell? ⟨Ad, 1, none⟩ = some (.string ((rd_T45 l0_0 Ab).f1)) ∧ w'.cell? ⟨Ad, 2, none⟩ = some (.int .i64 ((rd_T45 l0_0 Ab).f2)) ∧ w'.cell? ⟨Bb, 0, none⟩ = some (.slice (some Ak) l0_0.length c0_0) ∧ w'.cell? (Ak.add (((Aj)).toNat * 3)) = some (.string ((rd_T45 l0_0 (Aj)).f0)) ∧ w'.cell? ⟨(Ak.add (((Aj)).toNat * 3)).block, (Ak.add (((Aj)).toNat * 3)).off + 1, none⟩ = some (.string ((rd_T45 l0_0 (Aj)).f1)) ∧ w'.cell? ⟨(Ak.add (((Aj)).toNat * 3)).block, (Ak.add (((Aj)).toNat * 3)).off + 2, none⟩ = some (.int .i64 ((rd_T45 l0_0 (Aj)).f2))) (ds := []) q7_0 (by kernel_rfl) rfl rfl ⟨zv Aa, zv Aa, zv Aa, zv Ac, (zU HB.out Au), (zU HB.out As), (zU HB.out Ar)⟩ (fun hHeld => ?_); refine with_tabW spec_DiskOk.tab7 spec_DiskOk.bits7 (fun HT_ HW_ => ?_)
          generalize Cd.drew = w36 at Ac Aa HB Ao Am Al hHeld ⊢
          refine zP 0 (some 21) q7_1 HT_ ?_
          refine zT 1 (some 22) q7_2 HT_ HW_ hHeld ?_
          refine one_ (i := 2) (N := some 23) q7_3 rfl rfl (one_of HT_.out (by kernel_rfl)) (by decide) (fun K hK => ?_)
          refine zH Try.func48 #[.string ((rd_T45 l0_0 Ab).f0)] ?_
          with_reducible refine (spec_l03Name.calls ((rd_T45 l0_0 Ab).f0) true _ A9.out).mono ?_
          rintro e w' ⟨rfl, ⟨nd, rfl⟩⟩
          refine ⟨_, rfl, ?_⟩
          refine hK.out _ _ ⟨zv Aa, zv Aa, zv Aa, zv Ac, (zU HB.out Au), (zU HB.out As), (zU HB.out Ar)⟩ (fun hHeld => ?_)
          clear hK K
          refine zN ?_
          refine zP 3 (some 24) q7_4 HT_ ?_
          refine zP 4 (some 25) q7_5 HT_ ?_
          refine zP 5 (some 26) q7_6 HT_ ?_
          refine zT 6 (some 27) q7_7 HT_ HW_ hHeld ?_
          refine zP 7 (some 28) q7_8 HT_ ?_
          refine zP 8 (some 29) q7_9 HT_ ?_
          refine zP 9 (some 30) q7_10 HT_ ?_
          refine zP 10 (some 31) q7_11 HT_ ?_
          refine zP 11 (some 32) q7_12 HT_ ?_
          refine zP 13 (some 34) q7_36 HT_ ?_
          refine zT 12 (some 33) q7_14 HT_ HW_ hHeld ?_
          refine zT 14 (some 35) q7_15 HT_ HW_ hHeld ?_
          refine zP 15 (some 36) q7_16 HT_ ?_
          refine one_ (i := 16) (N := some 37) q7_17 rfl rfl (one_of HT_.out (by kernel_rfl)) (by decide) (fun K hK => ?_)
          refine zH Try.func49 #[.int .i64 ((rd_T45 l0_0 Ab).f2), .int .i64 0, .int .i64 (((rd_T45 l0_0 Ab).f1).size : Int)] ?_
          with_reducible refine (spec_l01In.calls ((rd_T45 l0_0 Ab).f2) 0 (((rd_T45 l0_0 Ab).f1).size : Int) true _ Bq.out).mono ?_
          rintro e w' ⟨rfl, ⟨nd, rfl⟩⟩
          refine ⟨_, rfl, ?_⟩
          refine hK.out _ _ ⟨zv Aa, zv Aa, zv Aa, zv Ac, (zU HB.out Au), (zU HB.out As), (zU HB.out Ar)⟩ (fun hHeld => ?_)
          clear hK K
          refine zN ?_
          refine zP 17 (some 38) q7_18 HT_ ?_
          refine zP 18 (some 39) q7_19 HT_ ?_
          refine zP 19 (some 40) q7_20 HT_ ?_
          refine zP 20 (some 41) q7_21 HT_ ?_
          refine zP 21 (some 42) q7_22 HT_ ?_
          refine zP 22 (some 43) q7_23 HT_ ?_
          refine zP 23 (some 44) q7_24 HT_ ?_
          refine zP 25 (some 46) q7_37 HT_ ?_
          refine zP 26 (some 47) q7_38 HT_ ?_
          refine zP 30 (some 51) q7_39 HT_ ?_
          refine zT 24 (some 45) q7_40 HT_ HW_ hHeld ?_
          refine zP 27 (some 48) q7_41 HT_ ?_
          refine zP 28 (some 49) q7_42 HT_ ?_
          refine zT 29 (some 50) q7_31 HT_ HW_ hHeld ?_
          refine zT 31 (some 52) q7_32 HT_ HW_ hHeld ?_
          refine zP 32 (some 53) q7_33 HT_ ?_
          refine zP 33 (some 54) q7_34 HT_ ?_
          refine zP 34 (some 55) q7_35 HT_ ?_
          refine done_ (done_of HT_.out (by kernel_rfl)) ?_
          try go_wp2
          go_ret
          exact ⟨by first | rfl | (simp [errW_none, errW_some] <;> rfl) | (simp only [← hji21]; first | rfl | (simp [errW_none, errW_some] <;> rfl)) | (simp [*, errW_none, errW_some] <;> rfl), zw HB⟩
         rw [if_neg Br] at H
         exact absurd H (by simp)
        rw [if_neg Bs] at H
        exact absurd H (by simp)
       rw [if_neg Bf] at H
       have Bk : decide (0 < Ab) = false := decide_eq_false Bf
       clear Bf
       have H' := Aside0.mk H
       clear H
       obtain ⟨_, _⟩ := zc1 Ac
       have Aq : 0 ≤ (Ab : Int) := of_decide_eq_true za
       have Ap : Ab < (l0_0.length : Int) := of_decide_eq_true za
       obtain ⟨Ak, Aw, Ag, Af, Ae⟩ := at_T45 HR0_0.out Ab Aq Ap
       cases Aw
       replace Ag := zU HB.out Ag
       replace Af := zU HB.out Af
       replace Ae := zU HB.out Ae
       replace Aq := eq_true Aq
       replace Ap := eq_true Ap
       try go_wp2_with (first | ((with_reducible refine gate_dst (N := 4) rfl ?_); (try (refine gate_guard (by rfl) ?_; dsimp only)); refine zx (N := 4) (cs := #[.string (⟨#[]⟩ : ByteArray), .string (⟨#[]⟩ : ByteArray), .int .i64 0]) (t := 45) ?_; intro Ad hg Cj hbox hb; have Aa := Aside0.mk (hbox); have Ax := zg HB hg; have Ay := zg HB hg; replace HB := zs HB hb; have Ai := zl Ac hg; have Ah := zr Ac hg; replace Ac := zb Ac hb; clear hb hbox hg; have hnb39 := Ah.out; have hnc39 := Ai.out; obtain ⟨_, _, _, _, _, _⟩ := zc3 Aa))
       obtain ⟨Cc, hq_⟩ : ∃ v_, ((Cj.setCell ⟨Ad, 0, none⟩ (.string ((rd_T45 l0_0 Ab).f0))).setCell ⟨Ad, 1, none⟩ (.string ((rd_T45 l0_0 Ab).f1))).setCell ⟨Ad, 2, none⟩ (.int .i64 ((rd_T45 l0_0 Ab).f2)) = v_ := ⟨_, rfl⟩
       replace Ac := zjq hq_ Ac
       replace Aa : Aside0 (Cc.heap[Ad]? = some (.cells #[.string ((rd_T45 l0_0 Ab).f0), .string ((rd_T45 l0_0 Ab).f1), .int .i64 ((rd_T45 l0_0 Ab).f2)] 45 (0, 0))) := ⟨hq_ ▸ (zj Aa)⟩
       replace HB := zwq hq_ HB
       (try rw [hq_])
       clear hq_
       replace Ac := zd1 Ac
       replace Aa := zd1 Aa
       replace HB := zd2 HB
       refine start_ (n := 35) (S := fun w' => w'.cell? ⟨Ad, 0, none⟩ = some (.string ((rd_T45 l0_0 Ab).f0)) ∧ w'.cell? ⟨Ad, 1, none⟩ = some (.string ((rd_T45 l0_0 Ab).f1)) ∧ w'.cell? ⟨Ad, 2, none⟩ = some (.int .i64 ((rd_T45 l0_0 Ab).f2))) (ds := []) q7_0 (by kernel_rfl) rfl rfl ⟨zv Aa, zv Aa, zv Aa⟩ (fun hHeld => ?_); refine with_tabW spec_DiskOk.tab7 spec_DiskOk.bits7 (fun HT_ HW_ => ?_)
       generalize Cc.drew = w42 at Ac Aa HB hHeld ⊢
       refine zP 0 (some 21) q7_1 HT_ ?_
       refine zT 1 (some 22) q7_2 HT_ HW_ hHeld ?_
       refine one_ (i := 2) (N := some 23) q7_3 rfl rfl (one_of HT_.out (by kernel_rfl)) (by decide) (fun K hK => ?_)
       refine zH Try.func48 #[.string ((rd_T45 l0_0 Ab).f0)] ?_
       with_reducible refine (spec_l03Name.calls ((rd_T45 l0_0 Ab).f0) true _ A9.out).mono ?_
       rintro e w' ⟨rfl, ⟨nd, rfl⟩⟩
       refine ⟨_, rfl, ?_⟩
       refine hK.out _ _ ⟨zv Aa, zv Aa, zv Aa⟩ (fun hHeld => ?_)
       clear hK K
       refine zN ?_
       refine zP 3 (some 24) q7_4 HT_ ?_
       refine zP 4 (some 25) q7_5 HT_ ?_
       refine zP 5 (some 26) q7_6 HT_ ?_
       refine zT 6 (some 27) q7_7 HT_ HW_ hHeld ?_
       refine zP 7 (some 28) q7_8 HT_ ?_
       refine zP 8 (some 29) q7_9 HT_ ?_
       refine zP 9 (some 30) q7_10 HT_ ?_
       refine zP 10 (some 31) q7_11 HT_ ?_
       refine zP 11 (some 32) q7_12 HT_ ?_
       refine zP 13 (some 34) q7_36 HT_ ?_
       refine zT 12 (some 33) q7_14 HT_ HW_ hHeld ?_
       refine zT 14 (some 35) q7_15 HT_ HW_ hHeld ?_
       refine zP 15 (some 36) q7_16 HT_ ?_
       refine one_ (i := 16) (N := some 37) q7_17 rfl rfl (one_of HT_.out (by kernel_rfl)) (by decide) (fun K hK => ?_)
       refine zH Try.func49 #[.int .i64 ((rd_T45 l0_0 Ab).f2), .int .i64 0, .int .i64 (((rd_T45 l0_0 Ab).f1).size : Int)] ?_
       with_reducible refine (spec_l01In.calls ((rd_T45 l0_0 Ab).f2) 0 (((rd_T45 l0_0 Ab).f1).size : Int) true _ Bq.out).mono ?_
       rintro e w' ⟨rfl, ⟨nd, rfl⟩⟩
       refine ⟨_, rfl, ?_⟩
       refine hK.out _ _ ⟨zv Aa, zv Aa, zv Aa⟩ (fun hHeld => ?_)
       clear hK K
       refine zN ?_
       refine zP 17 (some 38) q7_18 HT_ ?_
       refine zP 18 (some 39) q7_19 HT_ ?_
       refine zP 19 (some 40) q7_20 HT_ ?_
       refine zP 20 (some 41) q7_21 HT_ ?_
       refine zP 21 (some 42) q7_22 HT_ ?_
       refine zP 22 (some 43) q7_23 HT_ ?_
       refine zU_ 23 (some 44) q7_24 HT_ ?_
       refine zU_ 24 (some 45) q7_25 HT_ ?_
       refine zU_ 25 (some 46) q7_26 HT_ ?_
       refine zU_ 26 (some 47) q7_27 HT_ ?_
       refine zU_ 27 (some 48) q7_28 HT_ ?_
       refine zU_ 28 (some 49) q7_29 HT_ ?_
       refine zU_ 29 (some 50) q7_30 HT_ ?_
       refine zU_ 30 (some 51) q7_31 HT_ ?_
       refine zU_ 31 (some 52) q7_32 HT_ ?_
       refine zU_ 32 (some 53) q7_33 HT_ ?_
       refine zP 33 (some 54) q7_34 HT_ ?_
       refine zP 34 (some 55) q7_35 HT_ ?_
       refine done_ (done_of HT_.out (by kernel_rfl)) ?_
       try go_wp2
       go_roundg k1
       case measure => have := Bv.out; omega
       case rel => exact ⟨(wrap64 (Ab + 1)), zf, H', ⟨by have := Bv.out; omega⟩, ⟨zkf Ac⟩, ⟨zw HB⟩⟩
      replace Bt := Bool.eq_false_iff.mpr Bt
      subst Bt
      rw [if_neg (show ¬ (false = true) by decide)] at H
      obtain rfl := Option.some.inj H
      obtain ⟨_, _⟩ := zc1 Ac
      have Aq : 0 ≤ (Ab : Int) := of_decide_eq_true za
      have Ap : Ab < (l0_0.length : Int) := of_decide_eq_true za
      obtain ⟨Ak, Aw, Ag, Af, Ae⟩ := at_T45 HR0_0.out Ab Aq Ap
      cases Aw
      replace Ag := zU HB.out Ag
      replace Af := zU HB.out Af
      replace Ae := zU HB.out Ae
      replace Aq := eq_true Aq
      replace Ap := eq_true Ap
      try go_wp2_with (first | ((with_reducible refine gate_dst (N := 4) rfl ?_); (try (refine gate_guard (by rfl) ?_; dsimp only)); refine zx (N := 4) (cs := #[.string (⟨#[]⟩ : ByteArray), .string (⟨#[]⟩ : ByteArray), .int .i64 0]) (t := 45) ?_; intro Ad hg Ci hbox hb; have Aa := Aside0.mk (hbox); have Ax := zg HB hg; have Ay := zg HB hg; replace HB := zs HB hb; have Ai := zl Ac hg; have Ah := zr Ac hg; replace Ac := zb Ac hb; clear hb hbox hg; have hnb45 := Ah.out; have hnc45 := Ai.out; obtain ⟨_, _, _, _, _, _⟩ := zc3 Aa))
      obtain ⟨Cb, hq_⟩ : ∃ v_, ((Ci.setCell ⟨Ad, 0, none⟩ (.string ((rd_T45 l0_0 Ab).f0))).setCell ⟨Ad, 1, none⟩ (.string ((rd_T45 l0_0 Ab).f1))).setCell ⟨Ad, 2, none⟩ (.int .i64 ((rd_T45 l0_0 Ab).f2)) = v_ := ⟨_, rfl⟩
      replace Ac := zjq hq_ Ac
      replace Aa : Aside0 (Cb.heap[Ad]? = some (.cells #[.string ((rd_T45 l0_0 Ab).f0), .string ((rd_T45 l0_0 Ab).f1), .int .i64 ((rd_T45 l0_0 Ab).f2)] 45 (0, 0))) := ⟨hq_ ▸ (zj Aa)⟩
      replace HB := zwq hq_ HB
      (try rw [hq_])
      clear hq_
      replace Ac := zd1 Ac
      replace Aa := zd1 Aa
      replace HB := zd2 HB
      refine start_ (n := 35) (S := fun w' => w'.cell? ⟨Ad, 0, none⟩ = some (.string ((rd_T45 l0_0 Ab).f0)) ∧ w'.cell? ⟨Ad, 1, none⟩ = some (.string ((rd_T45 l0_0 Ab).f1)) ∧ w'.cell? ⟨Ad, 2, none⟩ = some (.int .i64 ((rd_T45 l0_0 Ab).f2))) (ds := []) q7_0 (by kernel_rfl) rfl rfl ⟨zv Aa, zv Aa, zv Aa⟩ (fun hHeld => ?_); refine with_tabW spec_DiskOk.tab7 spec_DiskOk.bits7 (fun HT_ HW_ => ?_)
      generalize Cb.drew = w48 at Ac Aa HB hHeld ⊢
      refine zP 0 (some 21) q7_1 HT_ ?_
      refine zT 1 (some 22) q7_2 HT_ HW_ hHeld ?_
      refine one_ (i := 2) (N := some 23) q7_3 rfl rfl (one_of HT_.out (by kernel_rfl)) (by decide) (fun K hK => ?_)
      refine zH Try.func48 #[.string ((rd_T45 l0_0 Ab).f0)] ?_
      with_reducible refine (spec_l03Name.calls ((rd_T45 l0_0 Ab).f0) true _ A9.out).mono ?_
      rintro e w' ⟨rfl, ⟨nd, rfl⟩⟩
      refine ⟨_, rfl, ?_⟩
      refine hK.out _ _ ⟨zv Aa, zv Aa, zv Aa⟩ (fun hHeld => ?_)
      clear hK K
      refine zN ?_
      refine zP 3 (some 24) q7_4 HT_ ?_
      refine zP 4 (some 25) q7_5 HT_ ?_
      refine zP 5 (some 26) q7_6 HT_ ?_
      refine zT 6 (some 27) q7_7 HT_ HW_ hHeld ?_
      refine zP 7 (some 28) q7_8 HT_ ?_
      refine zP 8 (some 29) q7_9 HT_ ?_
      refine zP 9 (some 30) q7_10 HT_ ?_
      refine zP 10 (some 31) q7_11 HT_ ?_
      refine zP 11 (some 32) q7_12 HT_ ?_
      refine zP 13 (some 34) q7_36 HT_ ?_
      refine zT 12 (some 33) q7_14 HT_ HW_ hHeld ?_
      refine zT 14 (some 35) q7_15 HT_ HW_ hHeld ?_
      refine zP 15 (some 36) q7_16 HT_ ?_
      refine one_ (i := 16) (N := some 37) q7_17 rfl rfl (one_of HT_.out (by kernel_rfl)) (by decide) (fun K hK => ?_)
      refine zH Try.func49 #[.int .i64 ((rd_T45 l0_0 Ab).f2), .int .i64 0, .int .i64 (((rd_T45 l0_0 Ab).f1).size : Int)] ?_
      with_reducible refine (spec_l01In.calls ((rd_T45 l0_0 Ab).f2) 0 (((rd_T45 l0_0 Ab).f1).size : Int) false _ Bq.out).mono ?_
      rintro e w' ⟨rfl, ⟨nd, rfl⟩⟩
      refine ⟨_, rfl, ?_⟩
      refine hK.out _ _ ⟨zv Aa, zv Aa, zv Aa⟩ (fun hHeld => ?_)
      clear hK K
      refine zN ?_
      refine zP 17 (some 38) q7_18 HT_ ?_
      refine zP 18 (some 39) q7_19 HT_ ?_
      refine zP 19 (some 40) q7_20 HT_ ?_
      refine zU_ 20 (some 41) q7_21 HT_ ?_
      refine zU_ 21 (some 42) q7_22 HT_ ?_
      refine zU_ 22 (some 43) q7_23 HT_ ?_
      refine zU_ 23 (some 44) q7_24 HT_ ?_
      refine zU_ 24 (some 45) q7_25 HT_ ?_
      refine zU_ 25 (some 46) q7_26 HT_ ?_
      refine zU_ 26 (some 47) q7_27 HT_ ?_
      refine zU_ 27 (some 48) q7_28 HT_ ?_
      refine zU_ 28 (some 49) q7_29 HT_ ?_
      refine zU_ 29 (some 50) q7_30 HT_ ?_
      refine zU_ 30 (some 51) q7_31 HT_ ?_
      refine zU_ 31 (some 52) q7_32 HT_ ?_
      refine zU_ 32 (some 53) q7_33 HT_ ?_
      refine zU_ 33 (some 54) q7_34 HT_ ?_
      refine zP 34 (some 55) q7_35 HT_ ?_
      refine done_ (done_of HT_.out (by kernel_rfl)) ?_
      try go_wp2
      go_ret
      exact ⟨ze, zw HB⟩
     replace Bu := Bool.eq_false_iff.mpr Bu
     subst Bu
     rw [if_neg (show ¬ (false = true) by decide)] at H
     obtain rfl := Option.some.inj H
     obtain ⟨_, _⟩ := zc1 Ac
     have Aq : 0 ≤ (Ab : Int) := of_decide_eq_true za
     have Ap : Ab < (l0_0.length : Int) := of_decide_eq_true za
     obtain ⟨Ak, Aw, Ag, Af, Ae⟩ := at_T45 HR0_0.out Ab Aq Ap
     cases Aw
     replace Ag := zU HB.out Ag
     replace Af := zU HB.out Af
     replace Ae := zU HB.out Ae
     replace Aq := eq_true Aq
     replace Ap := eq_true Ap
     try go_wp2_with (first | ((with_reducible refine gate_dst (N := 4) rfl ?_); (try (refine gate_guard (by rfl) ?_; dsimp only)); refine zx (N := 4) (cs := #[.string (⟨#[]⟩ : ByteArray), .string (⟨#[]⟩ : ByteArray), .int .i64 0]) (t := 45) ?_; intro Ad hg Ch hbox hb; have Aa := Aside0.mk (hbox); have Ax := zg HB hg; have Ay := zg HB hg; replace HB := zs HB hb; have Ai := zl Ac hg; have Ah := zr Ac hg; replace Ac := zb Ac hb; clear hb hbox hg; have hnb51 := Ah.out; have hnc51 := Ai.out; obtain ⟨_, _, _, _, _, _⟩ := zc3 Aa))
     obtain ⟨Ca, hq_⟩ : ∃ v_, ((Ch.setCell ⟨Ad, 0, none⟩ (.string ((rd_T45 l0_0 Ab).f0))).setCell ⟨Ad, 1, none⟩ (.string ((rd_T45 l0_0 Ab).f1))).setCell ⟨Ad, 2, none⟩ (.int .i64 ((rd_T45 l0_0 Ab).f2)) = v_ := ⟨_, rfl⟩
     replace Ac := zjq hq_ Ac
     replace Aa : Aside0 (Ca.heap[Ad]? = some (.cells #[.string ((rd_T45 l0_0 Ab).f0), .string ((rd_T45 l0_0 Ab).f1), .int .i64 ((rd_T45 l0_0 Ab).f2)] 45 (0, 0))) := ⟨hq_ ▸ (zj Aa)⟩
     replace HB := zwq hq_ HB
     (try rw [hq_])
     clear hq_
     replace Ac := zd1 Ac
     replace Aa := zd1 Aa
     replace HB := zd2 HB
     refine start_ (n := 35) (S := fun w' => w'.cell? ⟨Ad, 0, none⟩ = some (.string ((rd_T45 l0_0 Ab).f0)) ∧ w'.cell? ⟨Ad, 1, none⟩ = some (.string ((rd_T45 l0_0 Ab).f1)) ∧ w'.cell? ⟨Ad, 2, none⟩ = some (.int .i64 ((rd_T45 l0_0 Ab).f2))) (ds := []) q7_0 (by kernel_rfl) rfl rfl ⟨zv Aa, zv Aa, zv Aa⟩ (fun hHeld => ?_); refine with_tabW spec_DiskOk.tab7 spec_DiskOk.bits7 (fun HT_ HW_ => ?_)
     generalize Ca.drew = w54 at Ac Aa HB hHeld ⊢
     refine zP 0 (some 21) q7_1 HT_ ?_
     refine zT 1 (some 22) q7_2 HT_ HW_ hHeld ?_
     refine one_ (i := 2) (N := some 23) q7_3 rfl rfl (one_of HT_.out (by kernel_rfl)) (by decide) (fun K hK => ?_)
     refine zH Try.func48 #[.string ((rd_T45 l0_0 Ab).f0)] ?_
     with_reducible refine (spec_l03Name.calls ((rd_T45 l0_0 Ab).f0) false _ A9.out).mono ?_
     rintro e w' ⟨rfl, ⟨nd, rfl⟩⟩
     refine ⟨_, rfl, ?_⟩
     refine hK.out _ _ ⟨zv Aa, zv Aa, zv Aa⟩ (fun hHeld => ?_)
     clear hK K
     refine zN ?_
     refine zP 3 (some 24) q7_4 HT_ ?_
     refine zP 4 (some 25) q7_5 HT_ ?_
     refine zU_ 5 (some 26) q7_6 HT_ ?_
     refine zU_ 6 (some 27) q7_7 HT_ ?_
     refine zU_ 7 (some 28) q7_8 HT_ ?_
     refine zU_ 8 (some 29) q7_9 HT_ ?_
     refine zP 9 (some 30) q7_10 HT_ ?_
     refine zP 10 (some 31) q7_11 HT_ ?_
     refine zU_ 11 (some 32) q7_12 HT_ ?_
     refine zU_ 12 (some 33) q7_13 HT_ ?_
     refine zU_ 13 (some 34) q7_14 HT_ ?_
     refine zU_ 14 (some 35) q7_15 HT_ ?_
     refine zU_ 15 (some 36) q7_16 HT_ ?_
     refine zU_ 16 (some 37) q7_17 HT_ ?_
     refine zU_ 17 (some 38) q7_18 HT_ ?_
     refine zP 18 (some 39) q7_19 HT_ ?_
     refine zP 19 (some 40) q7_20 HT_ ?_
     refine zU_ 20 (some 41) q7_21 HT_ ?_
     refine zU_ 21 (some 42) q7_22 HT_ ?_
     refine zU_ 22 (some 43) q7_23 HT_ ?_
     refine zU_ 23 (some 44) q7_24 HT_ ?_
     refine zU_ 24 (some 45) q7_25 HT_ ?_
     refine zU_ 25 (some 46) q7_26 HT_ ?_
     refine zU_ 26 (some 47) q7_27 HT_ ?_
     refine zU_ 27 (some 48) q7_28 HT_ ?_
     refine zU_ 28 (some 49) q7_29 HT_ ?_
     refine zU_ 29 (some 50) q7_30 HT_ ?_
     refine zU_ 30 (some 51) q7_31 HT_ ?_
     refine zU_ 31 (some 52) q7_32 HT_ ?_
     refine zU_ 32 (some 53) q7_33 HT_ ?_
     refine zU_ 33 (some 54) q7_34 HT_ ?_
     refine zP 34 (some 55) q7_35 HT_ ?_
     refine done_ (done_of HT_.out (by kernel_rfl)) ?_
     try go_wp2
     go_ret
     exact ⟨ze, zw HB⟩
    rw [if_neg c8] at H
    exact absurd H (by simp)
   rw [if_neg c7] at H
   have B8 := decide_eq_false c7
   clear c7
   obtain rfl := Option.some.inj H
   obtain ⟨_, _⟩ := zc1 Ac
   go_wp2
   go_ret
   exact ⟨ze, zw HB⟩

end Go.Proofs.Ytdiecogmaiglaaa.PFnActs
