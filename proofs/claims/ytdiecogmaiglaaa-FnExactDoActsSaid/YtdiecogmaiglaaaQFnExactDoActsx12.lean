import Derived.Test.YtdiecogmaiglaaaQFnExactDoActsx0
import Derived.Test.YtdiecogmaiglaaaQFnExactDoActsx11
namespace Go.Proofs.Ytdiecogmaiglaaa.PFnExactDoActs
open Go.RowKit Go.Proofs.YtdiecogmaiglaaaW.PrintWords Go.Proofs.YtdiecogmaiglaaaW.PrintLast Go.Proofs.YtdiecogmaiglaaaW.PrintMore
attribute [local go_sem] max2_int min2_int max_two min_two max_three min_three max_four min_four   -- for this text's walks alone
set_option linter.unusedVariables false
set_option linter.unusedSimpArgs false

/-! ### impl_DiskOk: function 15 -/
def impl_DiskOk.l0 : Nat → List (S45) → Int → Int → List (S45) → Option (Bool)
 | 0, _, _, _, _ => none
 | k + 1, x6, x7, x8, x243000 => if x8 < x7 then (if 0 ≤ x8 then (if x8 < (x6.length : Int) then ((impl_within.f (((rd_T45 x6 x8).f0).size : Int) 1 8).bind fun t245 => (if t245 = true then (if (((rd_T45 x6 x8).f1).size : Int) > 20000 then (some false) else ((impl_within.f ((rd_T45 x6 x8).f2) 0 (((rd_T45 x6 x8).f1).size : Int)).bind fun t246 => (if t246 = true then (if x8 > 0 then (if 0 ≤ (wrap64 (x8 - 1)) then (if (wrap64 (x8 - 1)) < (x243000.length : Int) then (if ((Op.bytesLess (((rd_T45 x243000 (wrap64 (x8 - 1))).f0).toList) (((rd_T45 x6 x8).f0).toList)) = true) then (impl_DiskOk.l0 k x6 x7 (wrap64 (x8 + 1)) x243000) else (some false)) else (none)) else (none)) else (impl_DiskOk.l0 k x6 x7 (wrap64 (x8 + 1)) x243000)) else (some false)))) else (some false))) else (none)) else (none)) else (some (decide ((x243000.length : Int) ≤ 30)))
def impl_DiskOk.f (k : Nat) (l0_0 : List (S45)) : Option (Bool) := impl_DiskOk.l0 k l0_0 (l0_0.length : Int) 0 l0_0
theorem impl_DiskOk.mono_l : ∀ k, (∀ y0 y1 y2 y3, LeO (impl_DiskOk.l0 k y0 y1 y2 y3) (impl_DiskOk.l0 (k + 1) y0 y1 y2 y3))
 | 0 => fun _ _ _ _ r h => by simp [impl_DiskOk.l0] at h
 | k + 1 => by
  have ih0 := impl_DiskOk.mono_l k
  intro y0 y1 y2 y3
  unfold impl_DiskOk.l0
  repeat' first
  | (with_reducible exact ih0 _ _ _ _)
  | (with_reducible exact LeO.refl _)
  | (with_reducible exact LeO.none _)
  | (with_reducible refine LeO.ite ?_ ?_)
  | (with_reducible refine LeO.bind ?_ (fun _ => ?_))
  | exact ih0 _ _ _ _
  | exact LeO.none _
  | refine LeO.ite ?_ ?_
  | refine LeO.bind ?_ (fun _ => ?_)
theorem impl_DiskOk.mono : ∀ a0 k, LeO (impl_DiskOk.f k a0) (impl_DiskOk.f (k + 1) a0) := by
 intro a0 k
 have ih0 := impl_DiskOk.mono_l k
 unfold impl_DiskOk.f
 repeat' first
   | (with_reducible exact ih0 _ _ _ _)
   | (with_reducible exact LeO.refl _)
   | (with_reducible exact LeO.none _)
   | (with_reducible refine LeO.ite ?_ ?_)
   | (with_reducible refine LeO.bind ?_ (fun _ => ?_))
   | exact ih0 _ _ _ _
   | exact LeO.none _
   | refine LeO.ite ?_ ?_
   | refine LeO.bind ?_ (fun _ => ?_)
def impl_DiskOk.T4 : Bool × List (List Nat × List Nat) := (true, [([], []), ([0], [0]), ([1], [1]), ([2], [2]), ([3], [3]), ([4, 3], [4]), ([5], [5]), ([6, 5], [5, 6]), ([7, 5], [5, 7]), ([8, 5], [5, 8]), ([5, 9], [5, 9]), ([10, 5], [10]), ([11], [11]), ([12, 11], [11, 12]), ([11], [11]), ([14, 11], [11, 14]), ([15, 11], [11, 15]), ([13, 16, 11, 11], [11, 13, 16]), ([17, 11], [11, 17]), ([11, 18], [11, 18]), ([19, 17], [19]), ([20], [20]), ([21, 20], [20, 21]), ([22, 20, 20], [20, 22]), ([23], [23]), ([24, 23], [23, 24]), ([23], [23]), ([26, 23], [23, 26]), ([25, 27, 23], [23, 25, 27]), ([28, 23], [23, 28]), ([29, 23], [23, 29]), ([23], [23]), ([31, 23], [23, 31]), ([30, 32, 23], [23, 30, 32]), ([23, 33, 20], [20, 23, 33]), ([20, 34], [20, 34])])
def impl_DiskOk.B4 : List Nat := [0, 1, 3, 7, 15, 31, 63, 127, 255, 511, 1023, 2047, 4095, 8191, 4095, 20479, 53247, 131071, 262143, 524287, 1048575, 2097151, 4194303, 8388607, 16777215, 33554431, 16777215, 83886079, 268435455, 536870911, 1073741823, 16777215, 2164260863, 8589934591, 17179869183, 34359738367]
theorem impl_DiskOk.tab4 : rtab .any (opsOf Try.f15 4) = impl_DiskOk.T4 := by kernel_rfl
theorem impl_DiskOk.bits4 : waitsOk impl_DiskOk.T4.2 impl_DiskOk.B4 = true := by kernel_rfl
abbrev q12_0 := #[o_,o_,o_,o_,o_,o_,o_,o_,o_,o_,o_,o_,o_,o_,o_,o_,o_,o_,o_,o_,o_,o_,o_,o_,o_,o_,o_,o_,o_,o_,o_,o_,o_,o_,o_,o_]
abbrev q12_1 := #[i_,o_,o_,o_,o_,o_,o_,o_,o_,o_,o_,o_,o_,o_,o_,o_,o_,o_,o_,o_,o_,o_,o_,o_,o_,o_,o_,o_,o_,o_,o_,o_,o_,o_,o_,o_]
abbrev q12_2 := #[i_,i_,o_,o_,o_,o_,o_,o_,o_,o_,o_,o_,o_,o_,o_,o_,o_,o_,o_,o_,o_,o_,o_,o_,o_,o_,o_,o_,o_,o_,o_,o_,o_,o_,o_,o_]
abbrev q12_3 := #[i_,i_,i_,o_,o_,o_,o_,o_,o_,o_,o_,o_,o_,o_,o_,o_,o_,o_,o_,o_,o_,o_,o_,o_,o_,o_,o_,o_,o_,o_,o_,o_,o_,o_,o_,o_]
abbrev q12_4 := #[i_,i_,i_,i_,o_,o_,o_,o_,o_,o_,o_,o_,o_,o_,o_,o_,o_,o_,o_,o_,o_,o_,o_,o_,o_,o_,o_,o_,o_,o_,o_,o_,o_,o_,o_,o_]
abbrev q12_5 := #[i_,i_,i_,i_,i_,o_,o_,o_,o_,o_,o_,o_,o_,o_,o_,o_,o_,o_,o_,o_,o_,o_,o_,o_,o_,o_,o_,o_,o_,o_,o_,o_,o_,o_,o_,o_]
abbrev q12_6 := #[i_,i_,i_,i_,i_,i_,o_,o_,o_,o_,o_,o_,o_,o_,o_,o_,o_,o_,o_,o_,o_,o_,o_,o_,o_,o_,o_,o_,o_,o_,o_,o_,o_,o_,o_,o_]
abbrev q12_7 := #[i_,i_,i_,i_,i_,i_,i_,o_,o_,o_,o_,o_,o_,o_,o_,o_,o_,o_,o_,o_,o_,o_,o_,o_,o_,o_,o_,o_,o_,o_,o_,o_,o_,o_,o_,o_]
abbrev q12_8 := #[i_,i_,i_,i_,i_,i_,i_,i_,o_,o_,o_,o_,o_,o_,o_,o_,o_,o_,o_,o_,o_,o_,o_,o_,o_,o_,o_,o_,o_,o_,o_,o_,o_,o_,o_,o_]
abbrev q12_9 := #[i_,i_,i_,i_,i_,i_,i_,i_,i_,o_,o_,o_,o_,o_,o_,o_,o_,o_,o_,o_,o_,o_,o_,o_,o_,o_,o_,o_,o_,o_,o_,o_,o_,o_,o_,o_]
abbrev q12_10 := #[i_,i_,i_,i_,i_,i_,i_,i_,i_,i_,o_,o_,o_,o_,o_,o_,o_,o_,o_,o_,o_,o_,o_,o_,o_,o_,o_,o_,o_,o_,o_,o_,o_,o_,o_,o_]
abbrev q12_11 := #[i_,i_,i_,i_,i_,i_,i_,i_,i_,i_,i_,o_,o_,o_,o_,o_,o_,o_,o_,o_,o_,o_,o_,o_,o_,o_,o_,o_,o_,o_,o_,o_,o_,o_,o_,o_]
abbrev q12_12 := #[i_,i_,i_,i_,i_,i_,i_,i_,i_,i_,i_,i_,o_,o_,o_,o_,o_,o_,o_,o_,o_,o_,o_,o_,o_,o_,o_,o_,o_,o_,o_,o_,o_,o_,o_,o_]
abbrev q12_13 := #[i_,i_,i_,i_,i_,i_,i_,i_,i_,i_,i_,i_,i_,o_,o_,o_,o_,o_,o_,o_,o_,o_,o_,o_,o_,o_,o_,o_,o_,o_,o_,o_,o_,o_,o_,o_]
abbrev q12_14 := #[i_,i_,i_,i_,i_,i_,i_,i_,i_,i_,i_,i_,i_,i_,o_,o_,o_,o_,o_,o_,o_,o_,o_,o_,o_,o_,o_,o_,o_,o_,o_,o_,o_,o_,o_,o_]
abbrev q12_15 := #[i_,i_,i_,i_,i_,i_,i_,i_,i_,i_,i_,i_,i_,i_,i_,o_,o_,o_,o_,o_,o_,o_,o_,o_,o_,o_,o_,o_,o_,o_,o_,o_,o_,o_,o_,o_]
abbrev q12_16 := #[i_,i_,i_,i_,i_,i_,i_,i_,i_,i_,i_,i_,i_,i_,i_,i_,o_,o_,o_,o_,o_,o_,o_,o_,o_,o_,o_,o_,o_,o_,o_,o_,o_,o_,o_,o_]
abbrev q12_17 := #[i_,i_,i_,i_,i_,i_,i_,i_,i_,i_,i_,i_,i_,i_,i_,i_,i_,o_,o_,o_,o_,o_,o_,o_,o_,o_,o_,o_,o_,o_,o_,o_,o_,o_,o_,o_]
abbrev q12_18 := #[i_,i_,i_,i_,i_,i_,i_,i_,i_,i_,i_,i_,i_,i_,i_,i_,i_,i_,o_,o_,o_,o_,o_,o_,o_,o_,o_,o_,o_,o_,o_,o_,o_,o_,o_,o_]
abbrev q12_19 := #[i_,i_,i_,i_,i_,i_,i_,i_,i_,i_,i_,i_,i_,i_,i_,i_,i_,i_,i_,o_,o_,o_,o_,o_,o_,o_,o_,o_,o_,o_,o_,o_,o_,o_,o_,o_]
abbrev q12_20 := #[i_,i_,i_,i_,i_,i_,i_,i_,i_,i_,i_,i_,i_,i_,i_,i_,i_,i_,i_,i_,o_,o_,o_,o_,o_,o_,o_,o_,o_,o_,o_,o_,o_,o_,o_,o_]
abbrev q12_21 := #[i_,i_,i_,i_,i_,i_,i_,i_,i_,i_,i_,i_,i_,i_,i_,i_,i_,i_,i_,i_,i_,o_,o_,o_,o_,o_,o_,o_,o_,o_,o_,o_,o_,o_,o_,o_]
abbrev q12_22 := #[i_,i_,i_,i_,i_,i_,i_,i_,i_,i_,i_,i_,i_,i_,i_,i_,i_,i_,i_,i_,i_,i_,o_,o_,o_,o_,o_,o_,o_,o_,o_,o_,o_,o_,o_,o_]
abbrev q12_23 := #[i_,i_,i_,i_,i_,i_,i_,i_,i_,i_,i_,i_,i_,i_,i_,i_,i_,i_,i_,i_,i_,i_,i_,o_,o_,o_,o_,o_,o_,o_,o_,o_,o_,o_,o_,o_]
abbrev q12_24 := #[i_,i_,i_,i_,i_,i_,i_,i_,i_,i_,i_,i_,i_,i_,i_,i_,i_,i_,i_,i_,i_,i_,i_,i_,o_,o_,o_,o_,o_,o_,o_,o_,o_,o_,o_,o_]
abbrev q12_25 := #[i_,i_,i_,i_,i_,i_,i_,i_,i_,i_,i_,i_,i_,i_,i_,i_,i_,i_,i_,i_,i_,i_,i_,i_,i_,o_,o_,o_,o_,o_,o_,o_,o_,o_,o_,o_]
abbrev q12_26 := #[i_,i_,i_,i_,i_,i_,i_,i_,i_,i_,i_,i_,i_,i_,i_,i_,i_,i_,i_,i_,i_,i_,i_,i_,i_,i_,o_,o_,o_,o_,o_,o_,o_,o_,o_,o_]
abbrev q12_27 := #[i_,i_,i_,i_,i_,i_,i_,i_,i_,i_,i_,i_,i_,i_,i_,i_,i_,i_,i_,i_,i_,i_,i_,i_,i_,i_,i_,o_,o_,o_,o_,o_,o_,o_,o_,o_]
abbrev q12_28 := #[i_,i_,i_,i_,i_,i_,i_,i_,i_,i_,i_,i_,i_,i_,i_,i_,i_,i_,i_,i_,i_,i_,i_,i_,i_,i_,i_,i_,o_,o_,o_,o_,o_,o_,o_,o_]
abbrev q12_29 := #[i_,i_,i_,i_,i_,i_,i_,i_,i_,i_,i_,i_,i_,i_,i_,i_,i_,i_,i_,i_,i_,i_,i_,i_,i_,i_,i_,i_,i_,o_,o_,o_,o_,o_,o_,o_]
abbrev q12_30 := #[i_,i_,i_,i_,i_,i_,i_,i_,i_,i_,i_,i_,i_,i_,i_,i_,i_,i_,i_,i_,i_,i_,i_,i_,i_,i_,i_,i_,i_,i_,o_,o_,o_,o_,o_,o_]
abbrev q12_31 := #[i_,i_,i_,i_,i_,i_,i_,i_,i_,i_,i_,i_,i_,i_,i_,i_,i_,i_,i_,i_,i_,i_,i_,i_,i_,i_,i_,i_,i_,i_,i_,o_,o_,o_,o_,o_]
abbrev q12_32 := #[i_,i_,i_,i_,i_,i_,i_,i_,i_,i_,i_,i_,i_,i_,i_,i_,i_,i_,i_,i_,i_,i_,i_,i_,i_,i_,i_,i_,i_,i_,i_,i_,o_,o_,o_,o_]
abbrev q12_33 := #[i_,i_,i_,i_,i_,i_,i_,i_,i_,i_,i_,i_,i_,i_,i_,i_,i_,i_,i_,i_,i_,i_,i_,i_,i_,i_,i_,i_,i_,i_,i_,i_,i_,o_,o_,o_]
abbrev q12_34 := #[i_,i_,i_,i_,i_,i_,i_,i_,i_,i_,i_,i_,i_,i_,i_,i_,i_,i_,i_,i_,i_,i_,i_,i_,i_,i_,i_,i_,i_,i_,i_,i_,i_,i_,o_,o_]
abbrev q12_35 := #[i_,i_,i_,i_,i_,i_,i_,i_,i_,i_,i_,i_,i_,i_,i_,i_,i_,i_,i_,i_,i_,i_,i_,i_,i_,i_,i_,i_,i_,i_,i_,i_,i_,i_,i_,o_]
abbrev q12_36 := #[i_,i_,i_,i_,i_,i_,i_,i_,i_,i_,i_,i_,i_,i_,i_,i_,i_,i_,i_,i_,i_,i_,i_,i_,i_,i_,i_,i_,i_,i_,i_,i_,i_,i_,i_,i_]
abbrev q12_37 := #[i_,i_,i_,i_,i_,i_,i_,i_,i_,i_,i_,i_,i_,o_,i_,o_,o_,o_,o_,o_,o_,o_,o_,o_,o_,o_,o_,o_,o_,o_,o_,o_,o_,o_,o_,o_]
abbrev q12_38 := #[i_,i_,i_,i_,i_,i_,i_,i_,i_,i_,i_,i_,i_,i_,i_,i_,i_,i_,i_,i_,i_,i_,i_,i_,i_,o_,i_,o_,o_,o_,o_,o_,o_,o_,o_,o_]
abbrev q12_39 := #[i_,i_,i_,i_,i_,i_,i_,i_,i_,i_,i_,i_,i_,i_,i_,i_,i_,i_,i_,i_,i_,i_,i_,i_,i_,o_,i_,i_,o_,o_,o_,o_,o_,o_,o_,o_]
abbrev q12_40 := #[i_,i_,i_,i_,i_,i_,i_,i_,i_,i_,i_,i_,i_,i_,i_,i_,i_,i_,i_,i_,i_,i_,i_,i_,i_,o_,i_,i_,o_,o_,o_,i_,o_,o_,o_,o_]
abbrev q12_41 := #[i_,i_,i_,i_,i_,i_,i_,i_,i_,i_,i_,i_,i_,i_,i_,i_,i_,i_,i_,i_,i_,i_,i_,i_,i_,i_,i_,i_,o_,o_,o_,i_,o_,o_,o_,o_]
abbrev q12_42 := #[i_,i_,i_,i_,i_,i_,i_,i_,i_,i_,i_,i_,i_,i_,i_,i_,i_,i_,i_,i_,i_,i_,i_,i_,i_,i_,i_,i_,i_,o_,o_,i_,o_,o_,o_,o_]
abbrev q12_43 := #[i_,i_,i_,i_,i_,i_,i_,i_,i_,i_,i_,i_,i_,i_,i_,i_,i_,i_,i_,i_,i_,i_,i_,i_,i_,i_,i_,i_,i_,i_,o_,i_,o_,o_,o_,o_]
set_option maxHeartbeats 8000000 in
set_option maxRecDepth 100000 in
theorem impl_DiskOk.calls (k : Nat) (A0_0 : Option Addr) (c0_0 : Nat) (l0_0 : List (S45)) (r : Bool) (w : World) (hr0_0 : Kd.C k45 w A0_0 l0_0.length l0_0) (hc0_0 : l0_0.length ≤ c0_0) (h : impl_DiskOk.f k l0_0 = some r) :
  Calls Try.prog 15 #[.agg #[.slice A0_0 l0_0.length c0_0]] w fun e w' => e = .returned (.bool r) ∧ Below w.heap.size w w' := by
 have hu29 := Try.underlying29
 have hu45 := Try.underlying45
 have HR0_0 := Aside0.mk hr0_0
 have HC0_0 := Aside0.mk hc0_0
 clear hr0_0 hc0_0
 have HB := Aside0.mk (Below.refl w.heap.size w)
 have H : (impl_DiskOk.l0 k l0_0 (l0_0.length : Int) 0 l0_0) = some r := h
 clear h
 have H' := Aside0.mk H
 clear H
 go_enter Try.func15, Try.ntmps15
 go_wp2_with (first | ((with_reducible refine gate_dst (N := 1) rfl ?_); (try (refine gate_guard (by rfl) ?_; dsimp only)); refine zx (N := 1) (cs := #[.slice A0_0 l0_0.length c0_0]) (t := 29) ?_; intro gb242 hg w2 hbox hb; have BK242 := Aside0.mk (hbox); have GW242 := zg HB hg; have GE242 := zg HB hg; replace HB := zs HB hb; clear hb hbox hg; obtain ⟨m3_0, n3_0⟩ := zc1 BK242))
 go_loopg [8] k (fun kq v8 w' => ∃ (x8_1 : Int), v8 = .int .i64 x8_1 ∧ Aside0 (impl_DiskOk.l0 kq l0_0 (l0_0.length : Int) x8_1 l0_0 = some r) ∧ Aside0 (kq ≤ k) ∧ Aside0 (w'.heap[gb242]? = some (.cells #[(.slice A0_0 l0_0.length c0_0)] 29 (0, 0))) ∧ Aside0 (Below w.heap.size w w'))
 case atStart => exact ⟨(0), zf, H', ⟨Nat.le_refl _⟩, ⟨zkf BK242⟩, ⟨zw HB⟩⟩
 case round =>
  clear H'
  try clear c1
  try clear p2
  try clear m3_0 n3_0
  obtain ⟨x8_1, rfl, HA, HK1, BK242, HB⟩ := hrel
  cases gk with
  | zero => exact absurd HA.out (by simp [impl_DiskOk.l0])
  | succ k1 =>
   have H := HA.out
   clear HA
   simp only [impl_DiskOk.l0] at H
   by_cases c4 : x8_1 < (l0_0.length : Int)
   ·rw [if_pos c4] at H
    have c4b0 := decide_eq_true c4
    clear c4
    by_cases c5 : 0 ≤ x8_1
    ·rw [if_pos c5] at H
     have c5b0 := decide_eq_true c5
     clear c5
     by_cases c6 : x8_1 < (l0_0.length : Int)
     ·rw [if_pos c6] at H
      have c6b0 := decide_eq_true c6
      clear c6
      replace H := Option.bind_eq_some_iff.mp H
      obtain ⟨t245, A70, H⟩ := H
      have A7 := Aside0.mk A70
      clear A70
      by_cases c8 : t245 = true
      ·subst c8
       rw [if_pos rfl] at H
       by_cases c9 : (((rd_T45 l0_0 x8_1).f1).size : Int) > 20000
       ·rw [if_pos c9] at H
        have c9b0 : decide (20000 < (((rd_T45 l0_0 x8_1).f1).size : Int)) = true := decide_eq_true c9
        have c9b1 : decide (20000 < ((rd_T45 l0_0 x8_1).f1).size) = true := decide_eq_true (by omega)
        clear c9
        obtain rfl := Option.some.inj H
        have p243 : 0 ≤ (x8_1 : Int) := of_decide_eq_true za
        have q243 : x8_1 < (l0_0.length : Int) := of_decide_eq_true za
        obtain ⟨ad243, e243, hx243_0, hx243_1, hx243_2⟩ := at_T45 HR0_0.out x8_1 p243 q243
        cases e243
        replace hx243_0 := zU HB.out hx243_0
        replace hx243_1 := zU HB.out hx243_1
        replace hx243_2 := zU HB.out hx243_2
        replace p243 := eq_true p243
        replace q243 := eq_true q243
        try go_wp2_with (first | ((with_reducible refine gate_dst (N := 4) rfl ?_); (try (refine gate_guard (by rfl) ?_; dsimp only)); refine zx (N := 4) (cs := #[.string (⟨#[]⟩ : ByteArray), .string (⟨#[]⟩ : ByteArray), .int .i64 0]) (t := 45) ?_; intro gb244 hg w10 hbox hb; have BK244 := Aside0.mk (hbox); have GW244 := zg HB hg; have GE244 := zg HB hg; replace HB := zs HB hb; have NB242_244 := zl BK242 hg; have NB244_242 := zr BK242 hg; replace BK242 := zb BK242 hb; clear hb hbox hg; have hnb11 := NB244_242.out; have hnc11 := NB242_244.out; obtain ⟨m12_0, m12_1, m12_2, n12_0, n12_1, n12_2⟩ := zc3 BK244))
        have n0_ : Aside0 ((((w10.setCell ⟨gb244, 0, none⟩ (.string ((rd_T45 l0_0 x8_1).f0))).setCell ⟨gb244, 1, none⟩ (.string ((rd_T45 l0_0 x8_1).f1))).setCell ⟨gb244, 2, none⟩ (.int .i64 ((rd_T45 l0_0 x8_1).f2))).heap[gb242]? = some (.cells #[.slice (some ad243) l0_0.length c0_0] 29 (0, 0))) := ⟨zkf BK242⟩
        have n1_ : Aside0 ((((w10.setCell ⟨gb244, 0, none⟩ (.string ((rd_T45 l0_0 x8_1).f0))).setCell ⟨gb244, 1, none⟩ (.string ((rd_T45 l0_0 x8_1).f1))).setCell ⟨gb244, 2, none⟩ (.int .i64 ((rd_T45 l0_0 x8_1).f2))).heap[gb244]? = some (.cells #[.string ((rd_T45 l0_0 x8_1).f0), .string ((rd_T45 l0_0 x8_1).f1), .int .i64 ((rd_T45 l0_0 x8_1).f2)] 45 (0, 0))) := ⟨by (with_reducible repeat (first | refine blk_drewN ?_ _ | refine blk_drew ?_ | refine blk_alloc ?_ _)); refine blk_put (cs := #[.string ((rd_T45 l0_0 x8_1).f0), .string ((rd_T45 l0_0 x8_1).f1), .int .i64 0]) ?_ 2 _ rfl; (with_reducible repeat (first | refine blk_drewN ?_ _ | refine blk_drew ?_ | refine blk_alloc ?_ _)); refine blk_put (cs := #[.string ((rd_T45 l0_0 x8_1).f0), .string (⟨#[]⟩ : ByteArray), .int .i64 0]) ?_ 1 _ rfl; (with_reducible repeat (first | refine blk_drewN ?_ _ | refine blk_drew ?_ | refine blk_alloc ?_ _)); refine blk_put (cs := #[.string (⟨#[]⟩ : ByteArray), .string (⟨#[]⟩ : ByteArray), .int .i64 0]) ?_ 0 _ rfl; (with_reducible repeat (first | refine blk_drewN ?_ _ | refine blk_drew ?_ | refine blk_alloc ?_ _)); exact BK244.out⟩
        have n2_ : Aside0 (Below w.heap.size w (((w10.setCell ⟨gb244, 0, none⟩ (.string ((rd_T45 l0_0 x8_1).f0))).setCell ⟨gb244, 1, none⟩ (.string ((rd_T45 l0_0 x8_1).f1))).setCell ⟨gb244, 2, none⟩ (.int .i64 ((rd_T45 l0_0 x8_1).f2)))) := ⟨zw HB⟩
        (try clear BK242)
        (try clear BK244)
        (try clear HB)
        generalize (((w10.setCell ⟨gb244, 0, none⟩ (.string ((rd_T45 l0_0 x8_1).f0))).setCell ⟨gb244, 1, none⟩ (.string ((rd_T45 l0_0 x8_1).f1))).setCell ⟨gb244, 2, none⟩ (.int .i64 ((rd_T45 l0_0 x8_1).f2))) = w13 at n0_ n1_ n2_ ⊢
        have BK242 := n0_
        have BK244 := n1_
        have HB := n2_
        clear n0_ n1_ n2_
        replace BK242 := Aside0.mk (blk_drew BK242.out)
        replace BK244 := Aside0.mk (blk_drew BK244.out)
        replace HB := Aside0.mk (below_drew1 HB.out)
        refine start_ (n := 36) (S := fun w' => w'.cell? ⟨gb244, 0, none⟩ = some (.string ((rd_T45 l0_0 x8_1).f0)) ∧ w'.cell? ⟨gb244, 1, none⟩ = some (.string ((rd_T45 l0_0 x8_1).f1)) ∧ w'.cell? ⟨gb244, 2, none⟩ = some (.int .i64 ((rd_T45 l0_0 x8_1).f2))) (ds := []) q12_0 (by kernel_rfl) rfl rfl ⟨zv BK244, zv BK244, zv BK244⟩ (fun hHeld => ?_); refine with_tabW impl_DiskOk.tab4 impl_DiskOk.bits4 (fun HT_ HW_ => ?_)
        generalize w13.drew = w14 at BK242 BK244 HB hHeld ⊢
        refine zP 0 (some 13) q12_1 HT_ ?_
        refine zT 1 (some 14) q12_2 HT_ HW_ hHeld ?_
        refine zP 2 (some 15) q12_3 HT_ ?_
        refine one_ (i := 3) (N := some 16) q12_4 rfl rfl (one_of HT_.out (by kernel_rfl)) (by decide) (fun K hK => ?_)
        refine zH Try.func51 #[.int .i64 (((rd_T45 l0_0 x8_1).f0).size : Int), .int .i64 1, .int .i64 8] ?_
        with_reducible refine (impl_within.calls (((rd_T45 l0_0 x8_1).f0).size : Int) 1 8 true _ A7.out).mono ?_
        rintro e w' ⟨rfl, ⟨nd, rfl⟩⟩
        refine ⟨_, rfl, ?_⟩
        refine hK.out _ _ ⟨zv BK244, zv BK244, zv BK244⟩ (fun hHeld => ?_)
        clear hK K
        refine zN ?_
        refine zP 4 (some 17) q12_5 HT_ ?_
        refine zP 5 (some 18) q12_6 HT_ ?_
        refine zP 6 (some 19) q12_7 HT_ ?_
        refine zT 7 (some 20) q12_8 HT_ HW_ hHeld ?_
        refine zP 8 (some 21) q12_9 HT_ ?_
        refine zP 9 (some 22) q12_10 HT_ ?_
        refine zP 10 (some 23) q12_11 HT_ ?_
        refine zP 11 (some 24) q12_12 HT_ ?_
        refine zU_ 12 (some 25) q12_13 HT_ ?_
        refine zU_ 13 (some 26) q12_14 HT_ ?_
        refine zU_ 14 (some 27) q12_15 HT_ ?_
        refine zU_ 15 (some 28) q12_16 HT_ ?_
        refine zU_ 16 (some 29) q12_17 HT_ ?_
        refine zU_ 17 (some 30) q12_18 HT_ ?_
        refine zU_ 18 (some 31) q12_19 HT_ ?_
        refine zP 19 (some 32) q12_20 HT_ ?_
        refine zP 20 (some 33) q12_21 HT_ ?_
        refine zU_ 21 (some 34) q12_22 HT_ ?_
        refine zU_ 22 (some 35) q12_23 HT_ ?_
        refine zU_ 23 (some 36) q12_24 HT_ ?_
        refine zU_ 24 (some 37) q12_25 HT_ ?_
        refine zU_ 25 (some 38) q12_26 HT_ ?_
        refine zU_ 26 (some 39) q12_27 HT_ ?_
        refine zU_ 27 (some 40) q12_28 HT_ ?_
        refine zU_ 28 (some 41) q12_29 HT_ ?_
        refine zU_ 29 (some 42) q12_30 HT_ ?_
        refine zU_ 30 (some 43) q12_31 HT_ ?_
        refine zU_ 31 (some 44) q12_32 HT_ ?_
        refine zU_ 32 (some 45) q12_33 HT_ ?_
        refine zU_ 33 (some 46) q12_34 HT_ ?_
        refine zU_ 34 (some 47) q12_35 HT_ ?_
        refine zP 35 (some 48) q12_36 HT_ ?_
        refine done_ (done_of HT_.out (by kernel_rfl)) ?_
        try go_wp2
        go_ret
        exact ⟨ze, zw HB⟩
       rw [if_neg c9] at H
       have c9b0 : decide (20000 < (((rd_T45 l0_0 x8_1).f1).size : Int)) = false := decide_eq_false c9
       have c9b1 : decide (20000 < ((rd_T45 l0_0 x8_1).f1).size) = false := decide_eq_false (by omega)
       clear c9
       replace H := Option.bind_eq_some_iff.mp H
       obtain ⟨t246, A150, H⟩ := H
       have A15 := Aside0.mk A150
       clear A150
       by_cases c16 : t246 = true
       ·subst c16
        rw [if_pos rfl] at H
        by_cases c17 : x8_1 > 0
        ·rw [if_pos c17] at H
         have c17b0 : decide (0 < x8_1) = true := decide_eq_true c17
         clear c17
         obtain ⟨ji18, hji18⟩ : ∃ j_ : Int, (wrap64 (x8_1 - 1)) = j_ := ⟨_, rfl⟩
         replace H : (if 0 ≤ (ji18) then (if (ji18) < (l0_0.length : Int) then (if ((Op.bytesLess (((rd_T45 l0_0 (ji18)).f0).toList) (((rd_T45 l0_0 x8_1).f0).toList)) = true) then (impl_DiskOk.l0 k1 l0_0 (l0_0.length : Int) (wrap64 (x8_1 + 1)) l0_0) else (some false)) else (none)) else (none)) = some r := by first | (rw [hji18] at H; exact H) | (simp only [hji18] at H ⊢; exact H)
         (try rw [hji18] at A7)
         (try rw [hji18] at A15)
         have hji18w : (IntKind.i64.wrap (x8_1 - 1)) = ji18 := (i64_w _).trans hji18
         by_cases c19 : 0 ≤ (ji18)
         ·rw [if_pos c19] at H
          have c19b0 := decide_eq_true c19
          clear c19
          by_cases c20 : (ji18) < (l0_0.length : Int)
          ·rw [if_pos c20] at H
           have c20b0 := decide_eq_true c20
           clear c20
           by_cases c21 : ((Op.bytesLess (((rd_T45 l0_0 (ji18)).f0).toList) (((rd_T45 l0_0 x8_1).f0).toList)) = true)
           ·rw [if_pos c21] at H
            have c21b0 : (Op.bytesLess (((rd_T45 l0_0 (ji18)).f0).toList) (((rd_T45 l0_0 x8_1).f0).toList)) = true := c21
            clear c21
            have H' := Aside0.mk H
            clear H
            have p243 : 0 ≤ (x8_1 : Int) := of_decide_eq_true za
            have q243 : x8_1 < (l0_0.length : Int) := of_decide_eq_true za
            obtain ⟨ad243, e243, hx243_0, hx243_1, hx243_2⟩ := at_T45 HR0_0.out x8_1 p243 q243
            cases e243
            replace hx243_0 := zU HB.out hx243_0
            replace hx243_1 := zU HB.out hx243_1
            replace hx243_2 := zU HB.out hx243_2
            replace p243 := eq_true p243
            replace q243 := eq_true q243
            try go_wp2_with (first | ((with_reducible refine gate_dst (N := 4) rfl ?_); (try (refine gate_guard (by rfl) ?_; dsimp only)); refine zx (N := 4) (cs := #[.string (⟨#[]⟩ : ByteArray), .string (⟨#[]⟩ : ByteArray), .int .i64 0]) (t := 45) ?_; intro gb244 hg w22 hbox hb; have BK244 := Aside0.mk (hbox); have GW244 := zg HB hg; have GE244 := zg HB hg; replace HB := zs HB hb; have NB242_244 := zl BK242 hg; have NB244_242 := zr BK242 hg; replace BK242 := zb BK242 hb; clear hb hbox hg; have hnb23 := NB244_242.out; have hnc23 := NB242_244.out; obtain ⟨m24_0, m24_1, m24_2, n24_0, n24_1, n24_2⟩ := zc3 BK244))
            have n0_ : Aside0 ((((w22.setCell ⟨gb244, 0, none⟩ (.string ((rd_T45 l0_0 x8_1).f0))).setCell ⟨gb244, 1, none⟩ (.string ((rd_T45 l0_0 x8_1).f1))).setCell ⟨gb244, 2, none⟩ (.int .i64 ((rd_T45 l0_0 x8_1).f2))).heap[gb242]? = some (.cells #[.slice (some ad243) l0_0.length c0_0] 29 (0, 0))) := ⟨zkf BK242⟩
            have n1_ : Aside0 ((((w22.setCell ⟨gb244, 0, none⟩ (.string ((rd_T45 l0_0 x8_1).f0))).setCell ⟨gb244, 1, none⟩ (.string ((rd_T45 l0_0 x8_1).f1))).setCell ⟨gb244, 2, none⟩ (.int .i64 ((rd_T45 l0_0 x8_1).f2))).heap[gb244]? = some (.cells #[.string ((rd_T45 l0_0 x8_1).f0), .string ((rd_T45 l0_0 x8_1).f1), .int .i64 ((rd_T45 l0_0 x8_1).f2)] 45 (0, 0))) := ⟨by (with_reducible repeat (first | refine blk_drewN ?_ _ | refine blk_drew ?_ | refine blk_alloc ?_ _)); refine blk_put (cs := #[.string ((rd_T45 l0_0 x8_1).f0), .string ((rd_T45 l0_0 x8_1).f1), .int .i64 0]) ?_ 2 _ rfl; (with_reducible repeat (first | refine blk_drewN ?_ _ | refine blk_drew ?_ | refine blk_alloc ?_ _)); refine blk_put (cs := #[.string ((rd_T45 l0_0 x8_1).f0), .string (⟨#[]⟩ : ByteArray), .int .i64 0]) ?_ 1 _ rfl; (with_reducible repeat (first | refine blk_drewN ?_ _ | refine blk_drew ?_ | refine blk_alloc ?_ _)); refine blk_put (cs := #[.string (⟨#[]⟩ : ByteArray), .string (⟨#[]⟩ : ByteArray), .int .i64 0]) ?_ 0 _ rfl; (with_reducible repeat (first | refine blk_drewN ?_ _ | refine blk_drew ?_ | refine blk_alloc ?_ _)); exact BK244.out⟩
            have n2_ : Aside0 (Below w.heap.size w (((w22.setCell ⟨gb244, 0, none⟩ (.string ((rd_T45 l0_0 x8_1).f0))).setCell ⟨gb244, 1, none⟩ (.string ((rd_T45 l0_0 x8_1).f1))).setCell ⟨gb244, 2, none⟩ (.int .i64 ((rd_T45 l0_0 x8_1).f2)))) := ⟨zw HB⟩
            (try clear BK242)
            (try clear BK244)
            (try clear HB)
            generalize (((w22.setCell ⟨gb244, 0, none⟩ (.string ((rd_T45 l0_0 x8_1).f0))).setCell ⟨gb244, 1, none⟩ (.string ((rd_T45 l0_0 x8_1).f1))).setCell ⟨gb244, 2, none⟩ (.int .i64 ((rd_T45 l0_0 x8_1).f2))) = w25 at n0_ n1_ n2_ ⊢
            have BK242 := n0_
            have BK244 := n1_
            have HB := n2_
            clear n0_ n1_ n2_
            replace BK242 := Aside0.mk (blk_drew BK242.out)
            replace BK244 := Aside0.mk (blk_drew BK244.out)
            replace HB := Aside0.mk (below_drew1 HB.out)
            have p247 : 0 ≤ ((ji18) : Int) := of_decide_eq_true za
            have q247 : (ji18) < (l0_0.length : Int) := of_decide_eq_true za
            obtain ⟨ad247, e247, hx247_0, hx247_1, hx247_2⟩ := at_T45 HR0_0.out (ji18) p247 q247
            have hw247_2 := hx247_2
            have hw247_1 := hx247_1
            have hw247_0 := hx247_0
            obtain rfl : ad243 = ad247 := (by injection e247)
            replace hx247_0 := zU HB.out hx247_0
            replace hx247_1 := zU HB.out hx247_1
            replace hx247_2 := zU HB.out hx247_2
            replace p247 := eq_true p247
            replace q247 := eq_true q247
            refine start_ (n := 36) (S := fun w' => w'.cell? ⟨gb244, 0, none⟩ = some (.string ((rd_T45 l0_0 x8_1).f0)) ∧ w'.cell? ⟨gb244, 1, none⟩ = some (.string ((rd_T45 l0_0 x8_1).f1)) ∧ w'.cell? ⟨gb244, 2, none⟩ = some (.int .i64 ((rd_T45 l0_0 x8_1).f2)) ∧ w'.cell? ⟨gb242, 0, none⟩ = some (.slice (some ad243) l0_0.length c0_0) ∧ w'.cell? (ad243.add (((ji18)).toNat * 3)) = some (.string ((rd_T45 l0_0 (ji18)).f0)) ∧ w'.cell? ⟨(ad243.add (((ji18)).toNat * 3)).block, (ad243.add (((ji18)).toNat * 3)).off + 1, none⟩ = some (.string ((rd_T45 l0_0 (ji18)).f1)) ∧ w'.cell? ⟨(ad243.add (((ji18)).toNat * 3)).block, (ad243.add (((ji18)).toNat * 3)).off + 2, none⟩ = some (.int .i64 ((rd_T45 l0_0 (ji18)).f2))) (ds := []) q12_0 (by kernel_rfl) rfl rfl ⟨zv BK244, zv BK244, zv BK244, zv BK242, (zU HB.out hw247_0), (zU HB.out hw247_1), (zU HB.out hw247_2)⟩ (fun hHeld => ?_); refine with_tabW impl_DiskOk.tab4 impl_DiskOk.bits4 (fun HT_ HW_ => ?_)
            generalize w25.drew = w26 at BK242 BK244 HB hx247_0 hx247_1 hx247_2 hHeld ⊢
            refine zP 0 (some 13) q12_1 HT_ ?_
            refine zT 1 (some 14) q12_2 HT_ HW_ hHeld ?_
            refine zP 2 (some 15) q12_3 HT_ ?_
            refine one_ (i := 3) (N := some 16) q12_4 rfl rfl (one_of HT_.out (by kernel_rfl)) (by decide) (fun K hK => ?_)
            refine zH Try.func51 #[.int .i64 (((rd_T45 l0_0 x8_1).f0).size : Int), .int .i64 1, .int .i64 8] ?_
            with_reducible refine (impl_within.calls (((rd_T45 l0_0 x8_1).f0).size : Int) 1 8 true _ A7.out).mono ?_
            rintro e w' ⟨rfl, ⟨nd, rfl⟩⟩
            refine ⟨_, rfl, ?_⟩
            refine hK.out _ _ ⟨zv BK244, zv BK244, zv BK244, zv BK242, (zU HB.out hw247_0), (zU HB.out hw247_1), (zU HB.out hw247_2)⟩ (fun hHeld => ?_)
            clear hK K
            refine zN ?_
            refine zP 4 (some 17) q12_5 HT_ ?_
            refine zP 5 (some 18) q12_6 HT_ ?_
            refine zP 6 (some 19) q12_7 HT_ ?_
            refine zT 7 (some 20) q12_8 HT_ HW_ hHeld ?_
            refine zP 8 (some 21) q12_9 HT_ ?_
            refine zP 9 (some 22) q12_10 HT_ ?_
            refine zP 10 (some 23) q12_11 HT_ ?_
            refine zP 11 (some 24) q12_12 HT_ ?_
            refine zP 12 (some 25) q12_13 HT_ ?_
            refine zP 14 (some 27) q12_37 HT_ ?_
            refine zT 13 (some 26) q12_15 HT_ HW_ hHeld ?_
            refine zT 15 (some 28) q12_16 HT_ HW_ hHeld ?_
            refine zP 16 (some 29) q12_17 HT_ ?_
            refine one_ (i := 17) (N := some 30) q12_18 rfl rfl (one_of HT_.out (by kernel_rfl)) (by decide) (fun K hK => ?_)
            refine zH Try.func51 #[.int .i64 ((rd_T45 l0_0 x8_1).f2), .int .i64 0, .int .i64 (((rd_T45 l0_0 x8_1).f1).size : Int)] ?_
            with_reducible refine (impl_within.calls ((rd_T45 l0_0 x8_1).f2) 0 (((rd_T45 l0_0 x8_1).f1).size : Int) true _ A15.out).mono ?_
            rintro e w' ⟨rfl, ⟨nd, rfl⟩⟩
            refine ⟨_, rfl, ?_⟩
            refine hK.out _ _ ⟨zv BK244, zv BK244, zv BK244, zv BK242, (zU HB.out hw247_0), (zU HB.out hw247_1), (zU HB.out hw247_2)⟩ (fun hHeld => ?_)
            clear hK K
            refine zN ?_
            refine zP 18 (some 31) q12_19 HT_ ?_
            refine zP 19 (some 32) q12_20 HT_ ?_
            refine zP 20 (some 33) q12_21 HT_ ?_
            refine zP 21 (some 34) q12_22 HT_ ?_
            refine zP 22 (some 35) q12_23 HT_ ?_
            refine zP 23 (some 36) q12_24 HT_ ?_
            refine zP 24 (some 37) q12_25 HT_ ?_
            refine zP 26 (some 39) q12_38 HT_ ?_
            refine zP 27 (some 40) q12_39 HT_ ?_
            refine zP 31 (some 44) q12_40 HT_ ?_
            refine zT 25 (some 38) q12_41 HT_ HW_ hHeld ?_
            refine zP 28 (some 41) q12_42 HT_ ?_
            refine zP 29 (some 42) q12_43 HT_ ?_
            refine zT 30 (some 43) q12_32 HT_ HW_ hHeld ?_
            refine zT 32 (some 45) q12_33 HT_ HW_ hHeld ?_
            refine zP 33 (some 46) q12_34 HT_ ?_
            refine zP 34 (some 47) q12_35 HT_ ?_
            refine zP 35 (some 48) q12_36 HT_ ?_
            refine done_ (done_of HT_.out (by kernel_rfl)) ?_
            try go_wp2
            go_roundg k1
            case measure => have := HK1.out; omega
            case rel => exact ⟨(wrap64 (x8_1 + 1)), zf, H', ⟨by have := HK1.out; omega⟩, ⟨zkf BK242⟩, ⟨zw HB⟩⟩
           rw [if_neg c21] at H
           have c21b0 : (Op.bytesLess (((rd_T45 l0_0 (ji18)).f0).toList) (((rd_T45 l0_0 x8_1).f0).toList)) = false := by simpa using c21
           clear c21
           obtain rfl := Option.some.inj H
           have p243 : 0 ≤ (x8_1 : Int) := of_decide_eq_true za
           have q243 : x8_1 < (l0_0.length : Int) := of_decide_eq_true za
           obtain ⟨ad243, e243, hx243_0, hx243_1, hx243_2⟩ := at_T45 HR0_0.out x8_1 p243 q243
           cases e243
           replace hx243_0 := zU HB.out hx243_0
           replace hx243_1 := zU HB.out hx243_1
           replace hx243_2 := zU HB.out hx243_2
           replace p243 := eq_true p243
           replace q243 := eq_true q243
           try go_wp2_with (first | ((with_reducible refine gate_dst (N := 4) rfl ?_); (try (refine gate_guard (by rfl) ?_; dsimp only)); refine zx (N := 4) (cs := #[.string (⟨#[]⟩ : ByteArray), .string (⟨#[]⟩ : ByteArray), .int .i64 0]) (t := 45) ?_; intro gb244 hg w27 hbox hb; have BK244 := Aside0.mk (hbox); have GW244 := zg HB hg; have GE244 := zg HB hg; replace HB := zs HB hb; have NB242_244 := zl BK242 hg; have NB244_242 := zr BK242 hg; replace BK242 := zb BK242 hb; clear hb hbox hg; have hnb28 := NB244_242.out; have hnc28 := NB242_244.out; obtain ⟨m29_0, m29_1, m29_2, n29_0, n29_1, n29_2⟩ := zc3 BK244))
           have n0_ : Aside0 ((((w27.setCell ⟨gb244, 0, none⟩ (.string ((rd_T45 l0_0 x8_1).f0))).setCell ⟨gb244, 1, none⟩ (.string ((rd_T45 l0_0 x8_1).f1))).setCell ⟨gb244, 2, none⟩ (.int .i64 ((rd_T45 l0_0 x8_1).f2))).heap[gb242]? = some (.cells #[.slice (some ad243) l0_0.length c0_0] 29 (0, 0))) := ⟨zkf BK242⟩
           have n1_ : Aside0 ((((w27.setCell ⟨gb244, 0, none⟩ (.string ((rd_T45 l0_0 x8_1).f0))).setCell ⟨gb244, 1, none⟩ (.string ((rd_T45 l0_0 x8_1).f1))).setCell ⟨gb244, 2, none⟩ (.int .i64 ((rd_T45 l0_0 x8_1).f2))).heap[gb244]? = some (.cells #[.string ((rd_T45 l0_0 x8_1).f0), .string ((rd_T45 l0_0 x8_1).f1), .int .i64 ((rd_T45 l0_0 x8_1).f2)] 45 (0, 0))) := ⟨by (with_reducible repeat (first | refine blk_drewN ?_ _ | refine blk_drew ?_ | refine blk_alloc ?_ _)); refine blk_put (cs := #[.string ((rd_T45 l0_0 x8_1).f0), .string ((rd_T45 l0_0 x8_1).f1), .int .i64 0]) ?_ 2 _ rfl; (with_reducible repeat (first | refine blk_drewN ?_ _ | refine blk_drew ?_ | refine blk_alloc ?_ _)); refine blk_put (cs := #[.string ((rd_T45 l0_0 x8_1).f0), .string (⟨#[]⟩ : ByteArray), .int .i64 0]) ?_ 1 _ rfl; (with_reducible repeat (first | refine blk_drewN ?_ _ | refine blk_drew ?_ | refine blk_alloc ?_ _)); refine blk_put (cs := #[.string (⟨#[]⟩ : ByteArray), .string (⟨#[]⟩ : ByteArray), .int .i64 0]) ?_ 0 _ rfl; (with_reducible repeat (first | refine blk_drewN ?_ _ | refine blk_drew ?_ | refine blk_alloc ?_ _)); exact BK244.out⟩
           have n2_ : Aside0 (Below w.heap.size w (((w27.setCell ⟨gb244, 0, none⟩ (.string ((rd_T45 l0_0 x8_1).f0))).setCell ⟨gb244, 1, none⟩ (.string ((rd_T45 l0_0 x8_1).f1))).setCell ⟨gb244, 2, none⟩ (.int .i64 ((rd_T45 l0_0 x8_1).f2)))) := ⟨zw HB⟩
           (try clear BK242)
           (try clear BK244)
           (try clear HB)
           generalize (((w27.setCell ⟨gb244, 0, none⟩ (.string ((rd_T45 l0_0 x8_1).f0))).setCell ⟨gb244, 1, none⟩ (.string ((rd_T45 l0_0 x8_1).f1))).setCell ⟨gb244, 2, none⟩ (.int .i64 ((rd_T45 l0_0 x8_1).f2))) = w30 at n0_ n1_ n2_ ⊢
           have BK242 := n0_
           have BK244 := n1_
           have HB := n2_
           clear n0_ n1_ n2_
           replace BK242 := Aside0.mk (blk_drew BK242.out)
           replace BK244 := Aside0.mk (blk_drew BK244.out)
           replace HB := Aside0.mk (below_drew1 HB.out)
           have p247 : 0 ≤ ((ji18) : Int) := of_decide_eq_true za
           have q247 : (ji18) < (l0_0.length : Int) := of_decide_eq_true za
           obtain ⟨ad247, e247, hx247_0, hx247_1, hx247_2⟩ := at_T45 HR0_0.out (ji18) p247 q247
           have hw247_2 := hx247_2
           have hw247_1 := hx247_1
           have hw247_0 := hx247_0
           obtain rfl : ad243 = ad247 := (by injection e247)
           replace hx247_0 := zU HB.out hx247_0
           replace hx247_1 := zU HB.out hx247_1
           replace hx247_2 := zU HB.out hx247_2
           replace p247 := eq_true p247
           replace q247 := eq_true q247
           refine start_ (n := 36) (S := fun w' => w'.cell? ⟨gb244, 0, none⟩ = some (.string ((rd_T45 l0_0 x8_1).f0)) ∧ w'.cell? ⟨gb244, 1, none⟩ = some (.string ((rd_T45 l0_0 x8_1).f1)) ∧ w'.cell? ⟨gb244, 2, none⟩ = some (.int .i64 ((rd_T45 l0_0 x8_1).f2)) ∧ w'.cell? ⟨gb242, 0, none⟩ = some (.slice (some ad243) l0_0.length c0_0) ∧ w'.cell? (ad243.add (((ji18)).toNat * 3)) = some (.string ((rd_T45 l0_0 (ji18)).f0)) ∧ w'.cell? ⟨(ad243.add (((ji18)).toNat * 3)).block, (ad243.add (((ji18)).toNat * 3)).off + 1, none⟩ = some (.string ((rd_T45 l0_0 (ji18)).f1)) ∧ w'.cell? ⟨(ad243.add (((ji18)).toNat * 3)).block, (ad243.add (((ji18)).toNat * 3)).off + 2, none⟩ = some (.int .i64 ((rd_T45 l0_0 (ji18)).f2))) (ds := []) q12_0 (by kernel_rfl) rfl rfl ⟨zv BK244, zv BK244, zv BK244, zv BK242, (zU HB.out hw247_0), (zU HB.out hw247_1), (zU HB.out hw247_2)⟩ (fun hHeld => ?_); refine with_tabW impl_DiskOk.tab4 impl_DiskOk.bits4 (fun HT_ HW_ => ?_)
           generalize w30.drew = w31 at BK242 BK244 HB hx247_0 hx247_1 hx247_2 hHeld ⊢
           refine zP 0 (some 13) q12_1 HT_ ?_
           refine zT 1 (some 14) q12_2 HT_ HW_ hHeld ?_
           refine zP 2 (some 15) q12_3 HT_ ?_
           refine one_ (i := 3) (N := some 16) q12_4 rfl rfl (one_of HT_.out (by kernel_rfl)) (by decide) (fun K hK => ?_)
           refine zH Try.func51 #[.int .i64 (((rd_T45 l0_0 x8_1).f0).size : Int), .int .i64 1, .int .i64 8] ?_
           with_reducible refine (impl_within.calls (((rd_T45 l0_0 x8_1).f0).size : Int) 1 8 true _ A7.out).mono ?_
           rintro e w' ⟨rfl, ⟨nd, rfl⟩⟩
           refine ⟨_, rfl, ?_⟩
           refine hK.out _ _ ⟨zv BK244, zv BK244, zv BK244, zv BK242, (zU HB.out hw247_0), (zU HB.out hw247_1), (zU HB.out hw247_2)⟩ (fun hHeld => ?_)
           clear hK K
           refine zN ?_
           refine zP 4 (some 17) q12_5 HT_ ?_
           refine zP 5 (some 18) q12_6 HT_ ?_
           refine zP 6 (some 19) q12_7 HT_ ?_
           refine zT 7 (some 20) q12_8 HT_ HW_ hHeld ?_
           refine zP 8 (some 21) q12_9 HT_ ?_
           refine zP 9 (some 22) q12_10 HT_ ?_
           refine zP 10 (some 23) q12_11 HT_ ?_
           refine zP 11 (some 24) q12_12 HT_ ?_
           refine zP 12 (some 25) q12_13 HT_ ?_
           refine zP 14 (some 27) q12_37 HT_ ?_
           refine zT 13 (some 26) q12_15 HT_ HW_ hHeld ?_
           refine zT 15 (some 28) q12_16 HT_ HW_ hHeld ?_
           refine zP 16 (some 29) q12_17 HT_ ?_
           refine one_ (i := 17) (N := some 30) q12_18 rfl rfl (one_of HT_.out (by kernel_rfl)) (by decide) (fun K hK => ?_)
           refine zH Try.func51 #[.int .i64 ((rd_T45 l0_0 x8_1).f2), .int .i64 0, .int .i64 (((rd_T45 l0_0 x8_1).f1).size : Int)] ?_
           with_reducible refine (impl_within.calls ((rd_T45 l0_0 x8_1).f2) 0 (((rd_T45 l0_0 x8_1).f1).size : Int) true _ A15.out).mono ?_
           rintro e w' ⟨rfl, ⟨nd, rfl⟩⟩
           refine ⟨_, rfl, ?_⟩
           refine hK.out _ _ ⟨zv BK244, zv BK244, zv BK244, zv BK242, (zU HB.out hw247_0), (zU HB.out hw247_1), (zU HB.out hw247_2)⟩ (fun hHeld => ?_)
           clear hK K
           refine zN ?_
           refine zP 18 (some 31) q12_19 HT_ ?_
           refine zP 19 (some 32) q12_20 HT_ ?_
           refine zP 20 (some 33) q12_21 HT_ ?_
           refine zP 21 (some 34) q12_22 HT_ ?_
           refine zP 22 (some 35) q12_23 HT_ ?_
           refine zP 23 (some 36) q12_24 HT_ ?_
           refine zP 24 (some 37) q12_25 HT_ ?_
           refine zP 26 (some 39) q12_38 HT_ ?_
           refine zP 27 (some 40) q12_39 HT_ ?_
           refine zP 31 (some 44) q12_40 HT_ ?_
           refine zT 25 (some 38) q12_41 HT_ HW_ hHeld ?_
           refine zP 28 (some 41) q12_42 HT_ ?_
           refine zP 29 (some 42) q12_43 HT_ ?_
           refine zT 30 (some 43) q12_32 HT_ HW_ hHeld ?_
           refine zT 32 (some 45) q12_33 HT_ HW_ hHeld ?_
           refine zP 33 (some 46) q12_34 HT_ ?_
           refine zP 34 (some 47) q12_35 HT_ ?_
           refine zP 35 (some 48) q12_36 HT_ ?_
           refine done_ (done_of HT_.out (by kernel_rfl)) ?_
           try go_wp2
           go_ret
           exact ⟨by first | rfl | (simp [errW_none, errW_some] <;> rfl) | (simp only [← hji18]; first | rfl | (simp [errW_none, errW_some] <;> rfl)) | (simp [*, errW_none, errW_some] <;> rfl), zw HB⟩
          rw [if_neg c20] at H
          exact absurd H (by simp)
         rw [if_neg c19] at H
         exact absurd H (by simp)
        rw [if_neg c17] at H
        have c17b0 : decide (0 < x8_1) = false := decide_eq_false c17
        clear c17
        have H' := Aside0.mk H
        clear H
        have p243 : 0 ≤ (x8_1 : Int) := of_decide_eq_true za
        have q243 : x8_1 < (l0_0.length : Int) := of_decide_eq_true za
        obtain ⟨ad243, e243, hx243_0, hx243_1, hx243_2⟩ := at_T45 HR0_0.out x8_1 p243 q243
        cases e243
        replace hx243_0 := zU HB.out hx243_0
        replace hx243_1 := zU HB.out hx243_1
        replace hx243_2 := zU HB.out hx243_2
        replace p243 := eq_true p243
        replace q243 := eq_true q243
        try go_wp2_with (first | ((with_reducible refine gate_dst (N := 4) rfl ?_); (try (refine gate_guard (by rfl) ?_; dsimp only)); refine zx (N := 4) (cs := #[.string (⟨#[]⟩ : ByteArray), .string (⟨#[]⟩ : ByteArray), .int .i64 0]) (t := 45) ?_; intro gb244 hg w32 hbox hb; have BK244 := Aside0.mk (hbox); have GW244 := zg HB hg; have GE244 := zg HB hg; replace HB := zs HB hb; have NB242_244 := zl BK242 hg; have NB244_242 := zr BK242 hg; replace BK242 := zb BK242 hb; clear hb hbox hg; have hnb33 := NB244_242.out; have hnc33 := NB242_244.out; obtain ⟨m34_0, m34_1, m34_2, n34_0, n34_1, n34_2⟩ := zc3 BK244))
        have n0_ : Aside0 ((((w32.setCell ⟨gb244, 0, none⟩ (.string ((rd_T45 l0_0 x8_1).f0))).setCell ⟨gb244, 1, none⟩ (.string ((rd_T45 l0_0 x8_1).f1))).setCell ⟨gb244, 2, none⟩ (.int .i64 ((rd_T45 l0_0 x8_1).f2))).heap[gb242]? = some (.cells #[.slice (some ad243) l0_0.length c0_0] 29 (0, 0))) := ⟨zkf BK242⟩
        have n1_ : Aside0 ((((w32.setCell ⟨gb244, 0, none⟩ (.string ((rd_T45 l0_0 x8_1).f0))).setCell ⟨gb244, 1, none⟩ (.string ((rd_T45 l0_0 x8_1).f1))).setCell ⟨gb244, 2, none⟩ (.int .i64 ((rd_T45 l0_0 x8_1).f2))).heap[gb244]? = some (.cells #[.string ((rd_T45 l0_0 x8_1).f0), .string ((rd_T45 l0_0 x8_1).f1), .int .i64 ((rd_T45 l0_0 x8_1).f2)] 45 (0, 0))) := ⟨by (with_reducible repeat (first | refine blk_drewN ?_ _ | refine blk_drew ?_ | refine blk_alloc ?_ _)); refine blk_put (cs := #[.string ((rd_T45 l0_0 x8_1).f0), .string ((rd_T45 l0_0 x8_1).f1), .int .i64 0]) ?_ 2 _ rfl; (with_reducible repeat (first | refine blk_drewN ?_ _ | refine blk_drew ?_ | refine blk_alloc ?_ _)); refine blk_put (cs := #[.string ((rd_T45 l0_0 x8_1).f0), .string (⟨#[]⟩ : ByteArray), .int .i64 0]) ?_ 1 _ rfl; (with_reducible repeat (first | refine blk_drewN ?_ _ | refine blk_drew ?_ | refine blk_alloc ?_ _)); refine blk_put (cs := #[.string (⟨#[]⟩ : ByteArray), .string (⟨#[]⟩ : ByteArray), .int .i64 0]) ?_ 0 _ rfl; (with_reducible repeat (first | refine blk_drewN ?_ _ | refine blk_drew ?_ | refine blk_alloc ?_ _)); exact BK244.out⟩
        have n2_ : Aside0 (Below w.heap.size w (((w32.setCell ⟨gb244, 0, none⟩ (.string ((rd_T45 l0_0 x8_1).f0))).setCell ⟨gb244, 1, none⟩ (.string ((rd_T45 l0_0 x8_1).f1))).setCell ⟨gb244, 2, none⟩ (.int .i64 ((rd_T45 l0_0 x8_1).f2)))) := ⟨zw HB⟩
        (try clear BK242)
        (try clear BK244)
        (try clear HB)
        generalize (((w32.setCell ⟨gb244, 0, none⟩ (.string ((rd_T45 l0_0 x8_1).f0))).setCell ⟨gb244, 1, none⟩ (.string ((rd_T45 l0_0 x8_1).f1))).setCell ⟨gb244, 2, none⟩ (.int .i64 ((rd_T45 l0_0 x8_1).f2))) = w35 at n0_ n1_ n2_ ⊢
        have BK242 := n0_
        have BK244 := n1_
        have HB := n2_
        clear n0_ n1_ n2_
        replace BK242 := Aside0.mk (blk_drew BK242.out)
        replace BK244 := Aside0.mk (blk_drew BK244.out)
        replace HB := Aside0.mk (below_drew1 HB.out)
        refine start_ (n := 36) (S := fun w' => w'.cell? ⟨gb244, 0, none⟩ = some (.string ((rd_T45 l0_0 x8_1).f0)) ∧ w'.cell? ⟨gb244, 1, none⟩ = some (.string ((rd_T45 l0_0 x8_1).f1)) ∧ w'.cell? ⟨gb244, 2, none⟩ = some (.int .i64 ((rd_T45 l0_0 x8_1).f2))) (ds := []) q12_0 (by kernel_rfl) rfl rfl ⟨zv BK244, zv BK244, zv BK244⟩ (fun hHeld => ?_); refine with_tabW impl_DiskOk.tab4 impl_DiskOk.bits4 (fun HT_ HW_ => ?_)
        generalize w35.drew = w36 at BK242 BK244 HB hHeld ⊢
        refine zP 0 (some 13) q12_1 HT_ ?_
        refine zT 1 (some 14) q12_2 HT_ HW_ hHeld ?_
        refine zP 2 (some 15) q12_3 HT_ ?_
        refine one_ (i := 3) (N := some 16) q12_4 rfl rfl (one_of HT_.out (by kernel_rfl)) (by decide) (fun K hK => ?_)
        refine zH Try.func51 #[.int .i64 (((rd_T45 l0_0 x8_1).f0).size : Int), .int .i64 1, .int .i64 8] ?_
        with_reducible refine (impl_within.calls (((rd_T45 l0_0 x8_1).f0).size : Int) 1 8 true _ A7.out).mono ?_
        rintro e w' ⟨rfl, ⟨nd, rfl⟩⟩
        refine ⟨_, rfl, ?_⟩
        refine hK.out _ _ ⟨zv BK244, zv BK244, zv BK244⟩ (fun hHeld => ?_)
        clear hK K
        refine zN ?_
        refine zP 4 (some 17) q12_5 HT_ ?_
        refine zP 5 (some 18) q12_6 HT_ ?_
        refine zP 6 (some 19) q12_7 HT_ ?_
        refine zT 7 (some 20) q12_8 HT_ HW_ hHeld ?_
        refine zP 8 (some 21) q12_9 HT_ ?_
        refine zP 9 (some 22) q12_10 HT_ ?_
        refine zP 10 (some 23) q12_11 HT_ ?_
        refine zP 11 (some 24) q12_12 HT_ ?_
        refine zP 12 (some 25) q12_13 HT_ ?_
        refine zP 14 (some 27) q12_37 HT_ ?_
        refine zT 13 (some 26) q12_15 HT_ HW_ hHeld ?_
        refine zT 15 (some 28) q12_16 HT_ HW_ hHeld ?_
        refine zP 16 (some 29) q12_17 HT_ ?_
        refine one_ (i := 17) (N := some 30) q12_18 rfl rfl (one_of HT_.out (by kernel_rfl)) (by decide) (fun K hK => ?_)
        refine zH Try.func51 #[.int .i64 ((rd_T45 l0_0 x8_1).f2), .int .i64 0, .int .i64 (((rd_T45 l0_0 x8_1).f1).size : Int)] ?_
        with_reducible refine (impl_within.calls ((rd_T45 l0_0 x8_1).f2) 0 (((rd_T45 l0_0 x8_1).f1).size : Int) true _ A15.out).mono ?_
        rintro e w' ⟨rfl, ⟨nd, rfl⟩⟩
        refine ⟨_, rfl, ?_⟩
        refine hK.out _ _ ⟨zv BK244, zv BK244, zv BK244⟩ (fun hHeld => ?_)
        clear hK K
        refine zN ?_
        refine zP 18 (some 31) q12_19 HT_ ?_
        refine zP 19 (some 32) q12_20 HT_ ?_
        refine zP 20 (some 33) q12_21 HT_ ?_
        refine zP 21 (some 34) q12_22 HT_ ?_
        refine zP 22 (some 35) q12_23 HT_ ?_
        refine zP 23 (some 36) q12_24 HT_ ?_
        refine zU_ 24 (some 37) q12_25 HT_ ?_
        refine zU_ 25 (some 38) q12_26 HT_ ?_
        refine zU_ 26 (some 39) q12_27 HT_ ?_
        refine zU_ 27 (some 40) q12_28 HT_ ?_
        refine zU_ 28 (some 41) q12_29 HT_ ?_
        refine zU_ 29 (some 42) q12_30 HT_ ?_
        refine zU_ 30 (some 43) q12_31 HT_ ?_
        refine zU_ 31 (some 44) q12_32 HT_ ?_
        refine zU_ 32 (some 45) q12_33 HT_ ?_
        refine zU_ 33 (some 46) q12_34 HT_ ?_
        refine zP 34 (some 47) q12_35 HT_ ?_
        refine zP 35 (some 48) q12_36 HT_ ?_
        refine done_ (done_of HT_.out (by kernel_rfl)) ?_
        try go_wp2
        go_roundg k1
        case measure => have := HK1.out; omega
        case rel => exact ⟨(wrap64 (x8_1 + 1)), zf, H', ⟨by have := HK1.out; omega⟩, ⟨zkf BK242⟩, ⟨zw HB⟩⟩
       replace c16 := Bool.eq_false_iff.mpr c16
       subst c16
       rw [if_neg (show ¬ (false = true) by decide)] at H
       obtain rfl := Option.some.inj H
       have p243 : 0 ≤ (x8_1 : Int) := of_decide_eq_true za
       have q243 : x8_1 < (l0_0.length : Int) := of_decide_eq_true za
       obtain ⟨ad243, e243, hx243_0, hx243_1, hx243_2⟩ := at_T45 HR0_0.out x8_1 p243 q243
       cases e243
       replace hx243_0 := zU HB.out hx243_0
       replace hx243_1 := zU HB.out hx243_1
       replace hx243_2 := zU HB.out hx243_2
       replace p243 := eq_true p243
       replace q243 := eq_true q243
       try go_wp2_with (first | ((with_reducible refine gate_dst (N := 4) rfl ?_); (try (refine gate_guard (by rfl) ?_; dsimp only)); refine zx (N := 4) (cs := #[.string (⟨#[]⟩ : ByteArray), .string (⟨#[]⟩ : ByteArray), .int .i64 0]) (t := 45) ?_; intro gb244 hg w37 hbox hb; have BK244 := Aside0.mk (hbox); have GW244 := zg HB hg; have GE244 := zg HB hg; replace HB := zs HB hb; have NB242_244 := zl BK242 hg; have NB244_242 := zr BK242 hg; replace BK242 := zb BK242 hb; clear hb hbox hg; have hnb38 := NB244_242.out; have hnc38 := NB242_244.out; obtain ⟨m39_0, m39_1, m39_2, n39_0, n39_1, n39_2⟩ := zc3 BK244))
       have n0_ : Aside0 ((((w37.setCell ⟨gb244, 0, none⟩ (.string ((rd_T45 l0_0 x8_1).f0))).setCell ⟨gb244, 1, none⟩ (.string ((rd_T45 l0_0 x8_1).f1))).setCell ⟨gb244, 2, none⟩ (.int .i64 ((rd_T45 l0_0 x8_1).f2))).heap[gb242]? = some (.cells #[.slice (some ad243) l0_0.length c0_0] 29 (0, 0))) := ⟨zkf BK242⟩
       have n1_ : Aside0 ((((w37.setCell ⟨gb244, 0, none⟩ (.string ((rd_T45 l0_0 x8_1).f0))).setCell ⟨gb244, 1, none⟩ (.string ((rd_T45 l0_0 x8_1).f1))).setCell ⟨gb244, 2, none⟩ (.int .i64 ((rd_T45 l0_0 x8_1).f2))).heap[gb244]? = some (.cells #[.string ((rd_T45 l0_0 x8_1).f0), .string ((rd_T45 l0_0 x8_1).f1), .int .i64 ((rd_T45 l0_0 x8_1).f2)] 45 (0, 0))) := ⟨by (with_reducible repeat (first | refine blk_drewN ?_ _ | refine blk_drew ?_ | refine blk_alloc ?_ _)); refine blk_put (cs := #[.string ((rd_T45 l0_0 x8_1).f0), .string ((rd_T45 l0_0 x8_1).f1), .int .i64 0]) ?_ 2 _ rfl; (with_reducible repeat (first | refine blk_drewN ?_ _ | refine blk_drew ?_ | refine blk_alloc ?_ _)); refine blk_put (cs := #[.string ((rd_T45 l0_0 x8_1).f0), .string (⟨#[]⟩ : ByteArray), .int .i64 0]) ?_ 1 _ rfl; (with_reducible repeat (first | refine blk_drewN ?_ _ | refine blk_drew ?_ | refine blk_alloc ?_ _)); refine blk_put (cs := #[.string (⟨#[]⟩ : ByteArray), .string (⟨#[]⟩ : ByteArray), .int .i64 0]) ?_ 0 _ rfl; (with_reducible repeat (first | refine blk_drewN ?_ _ | refine blk_drew ?_ | refine blk_alloc ?_ _)); exact BK244.out⟩
       have n2_ : Aside0 (Below w.heap.size w (((w37.setCell ⟨gb244, 0, none⟩ (.string ((rd_T45 l0_0 x8_1).f0))).setCell ⟨gb244, 1, none⟩ (.string ((rd_T45 l0_0 x8_1).f1))).setCell ⟨gb244, 2, none⟩ (.int .i64 ((rd_T45 l0_0 x8_1).f2)))) := ⟨zw HB⟩
       (try clear BK242)
       (try clear BK244)
       (try clear HB)
       generalize (((w37.setCell ⟨gb244, 0, none⟩ (.string ((rd_T45 l0_0 x8_1).f0))).setCell ⟨gb244, 1, none⟩ (.string ((rd_T45 l0_0 x8_1).f1))).setCell ⟨gb244, 2, none⟩ (.int .i64 ((rd_T45 l0_0 x8_1).f2))) = w40 at n0_ n1_ n2_ ⊢
       have BK242 := n0_
       have BK244 := n1_
       have HB := n2_
       clear n0_ n1_ n2_
       replace BK242 := Aside0.mk (blk_drew BK242.out)
       replace BK244 := Aside0.mk (blk_drew BK244.out)
       replace HB := Aside0.mk (below_drew1 HB.out)
       refine start_ (n := 36) (S := fun w' => w'.cell? ⟨gb244, 0, none⟩ = some (.string ((rd_T45 l0_0 x8_1).f0)) ∧ w'.cell? ⟨gb244, 1, none⟩ = some (.string ((rd_T45 l0_0 x8_1).f1)) ∧ w'.cell? ⟨gb244, 2, none⟩ = some (.int .i64 ((rd_T45 l0_0 x8_1).f2))) (ds := []) q12_0 (by kernel_rfl) rfl rfl ⟨zv BK244, zv BK244, zv BK244⟩ (fun hHeld => ?_); refine with_tabW impl_DiskOk.tab4 impl_DiskOk.bits4 (fun HT_ HW_ => ?_)
       generalize w40.drew = w41 at BK242 BK244 HB hHeld ⊢
       refine zP 0 (some 13) q12_1 HT_ ?_
       refine zT 1 (some 14) q12_2 HT_ HW_ hHeld ?_
       refine zP 2 (some 15) q12_3 HT_ ?_
       refine one_ (i := 3) (N := some 16) q12_4 rfl rfl (one_of HT_.out (by kernel_rfl)) (by decide) (fun K hK => ?_)
       refine zH Try.func51 #[.int .i64 (((rd_T45 l0_0 x8_1).f0).size : Int), .int .i64 1, .int .i64 8] ?_
       with_reducible refine (impl_within.calls (((rd_T45 l0_0 x8_1).f0).size : Int) 1 8 true _ A7.out).mono ?_
       rintro e w' ⟨rfl, ⟨nd, rfl⟩⟩
       refine ⟨_, rfl, ?_⟩
       refine hK.out _ _ ⟨zv BK244, zv BK244, zv BK244⟩ (fun hHeld => ?_)
       clear hK K
       refine zN ?_
       refine zP 4 (some 17) q12_5 HT_ ?_
       refine zP 5 (some 18) q12_6 HT_ ?_
       refine zP 6 (some 19) q12_7 HT_ ?_
       refine zT 7 (some 20) q12_8 HT_ HW_ hHeld ?_
       refine zP 8 (some 21) q12_9 HT_ ?_
       refine zP 9 (some 22) q12_10 HT_ ?_
       refine zP 10 (some 23) q12_11 HT_ ?_
       refine zP 11 (some 24) q12_12 HT_ ?_
       refine zP 12 (some 25) q12_13 HT_ ?_
       refine zP 14 (some 27) q12_37 HT_ ?_
       refine zT 13 (some 26) q12_15 HT_ HW_ hHeld ?_
       refine zT 15 (some 28) q12_16 HT_ HW_ hHeld ?_
       refine zP 16 (some 29) q12_17 HT_ ?_
       refine one_ (i := 17) (N := some 30) q12_18 rfl rfl (one_of HT_.out (by kernel_rfl)) (by decide) (fun K hK => ?_)
       refine zH Try.func51 #[.int .i64 ((rd_T45 l0_0 x8_1).f2), .int .i64 0, .int .i64 (((rd_T45 l0_0 x8_1).f1).size : Int)] ?_
       with_reducible refine (impl_within.calls ((rd_T45 l0_0 x8_1).f2) 0 (((rd_T45 l0_0 x8_1).f1).size : Int) false _ A15.out).mono ?_
       rintro e w' ⟨rfl, ⟨nd, rfl⟩⟩
       refine ⟨_, rfl, ?_⟩
       refine hK.out _ _ ⟨zv BK244, zv BK244, zv BK244⟩ (fun hHeld => ?_)
       clear hK K
       refine zN ?_
       refine zP 18 (some 31) q12_19 HT_ ?_
       refine zP 19 (some 32) q12_20 HT_ ?_
       refine zP 20 (some 33) q12_21 HT_ ?_
       refine zU_ 21 (some 34) q12_22 HT_ ?_
       refine zU_ 22 (some 35) q12_23 HT_ ?_
       refine zU_ 23 (some 36) q12_24 HT_ ?_
       refine zU_ 24 (some 37) q12_25 HT_ ?_
       refine zU_ 25 (some 38) q12_26 HT_ ?_
       refine zU_ 26 (some 39) q12_27 HT_ ?_
       refine zU_ 27 (some 40) q12_28 HT_ ?_
       refine zU_ 28 (some 41) q12_29 HT_ ?_
       refine zU_ 29 (some 42) q12_30 HT_ ?_
       refine zU_ 30 (some 43) q12_31 HT_ ?_
       refine zU_ 31 (some 44) q12_32 HT_ ?_
       refine zU_ 32 (some 45) q12_33 HT_ ?_
       refine zU_ 33 (some 46) q12_34 HT_ ?_
       refine zU_ 34 (some 47) q12_35 HT_ ?_
       refine zP 35 (some 48) q12_36 HT_ ?_
       refine done_ (done_of HT_.out (by kernel_rfl)) ?_
       try go_wp2
       go_ret
       exact ⟨ze, zw HB⟩
      replace c8 := Bool.eq_false_iff.mpr c8
      subst c8
      rw [if_neg (show ¬ (false = true) by decide)] at H
      obtain rfl := Option.some.inj H
      have p243 : 0 ≤ (x8_1 : Int) := of_decide_eq_true za
      have q243 : x8_1 < (l0_0.length : Int) := of_decide_eq_true za
      obtain ⟨ad243, e243, hx243_0, hx243_1, hx243_2⟩ := at_T45 HR0_0.out x8_1 p243 q243
      cases e243
      replace hx243_0 := zU HB.out hx243_0
      replace hx243_1 := zU HB.out hx243_1
      replace hx243_2 := zU HB.out hx243_2
      replace p243 := eq_true p243
      replace q243 := eq_true q243
      try go_wp2_with (first | ((with_reducible refine gate_dst (N := 4) rfl ?_); (try (refine gate_guard (by rfl) ?_; dsimp only)); refine zx (N := 4) (cs := #[.string (⟨#[]⟩ : ByteArray), .string (⟨#[]⟩ : ByteArray), .int .i64 0]) (t := 45) ?_; intro gb244 hg w42 hbox hb; have BK244 := Aside0.mk (hbox); have GW244 := zg HB hg; have GE244 := zg HB hg; replace HB := zs HB hb; have NB242_244 := zl BK242 hg; have NB244_242 := zr BK242 hg; replace BK242 := zb BK242 hb; clear hb hbox hg; have hnb43 := NB244_242.out; have hnc43 := NB242_244.out; obtain ⟨m44_0, m44_1, m44_2, n44_0, n44_1, n44_2⟩ := zc3 BK244))
      have n0_ : Aside0 ((((w42.setCell ⟨gb244, 0, none⟩ (.string ((rd_T45 l0_0 x8_1).f0))).setCell ⟨gb244, 1, none⟩ (.string ((rd_T45 l0_0 x8_1).f1))).setCell ⟨gb244, 2, none⟩ (.int .i64 ((rd_T45 l0_0 x8_1).f2))).heap[gb242]? = some (.cells #[.slice (some ad243) l0_0.length c0_0] 29 (0, 0))) := ⟨zkf BK242⟩
      have n1_ : Aside0 ((((w42.setCell ⟨gb244, 0, none⟩ (.string ((rd_T45 l0_0 x8_1).f0))).setCell ⟨gb244, 1, none⟩ (.string ((rd_T45 l0_0 x8_1).f1))).setCell ⟨gb244, 2, none⟩ (.int .i64 ((rd_T45 l0_0 x8_1).f2))).heap[gb244]? = some (.cells #[.string ((rd_T45 l0_0 x8_1).f0), .string ((rd_T45 l0_0 x8_1).f1), .int .i64 ((rd_T45 l0_0 x8_1).f2)] 45 (0, 0))) := ⟨by (with_reducible repeat (first | refine blk_drewN ?_ _ | refine blk_drew ?_ | refine blk_alloc ?_ _)); refine blk_put (cs := #[.string ((rd_T45 l0_0 x8_1).f0), .string ((rd_T45 l0_0 x8_1).f1), .int .i64 0]) ?_ 2 _ rfl; (with_reducible repeat (first | refine blk_drewN ?_ _ | refine blk_drew ?_ | refine blk_alloc ?_ _)); refine blk_put (cs := #[.string ((rd_T45 l0_0 x8_1).f0), .string (⟨#[]⟩ : ByteArray), .int .i64 0]) ?_ 1 _ rfl; (with_reducible repeat (first | refine blk_drewN ?_ _ | refine blk_drew ?_ | refine blk_alloc ?_ _)); refine blk_put (cs := #[.string (⟨#[]⟩ : ByteArray), .string (⟨#[]⟩ : ByteArray), .int .i64 0]) ?_ 0 _ rfl; (with_reducible repeat (first | refine blk_drewN ?_ _ | refine blk_drew ?_ | refine blk_alloc ?_ _)); exact BK244.out⟩
      have n2_ : Aside0 (Below w.heap.size w (((w42.setCell ⟨gb244, 0, none⟩ (.string ((rd_T45 l0_0 x8_1).f0))).setCell ⟨gb244, 1, none⟩ (.string ((rd_T45 l0_0 x8_1).f1))).setCell ⟨gb244, 2, none⟩ (.int .i64 ((rd_T45 l0_0 x8_1).f2)))) := ⟨zw HB⟩
      (try clear BK242)
      (try clear BK244)
      (try clear HB)
      generalize (((w42.setCell ⟨gb244, 0, none⟩ (.string ((rd_T45 l0_0 x8_1).f0))).setCell ⟨gb244, 1, none⟩ (.string ((rd_T45 l0_0 x8_1).f1))).setCell ⟨gb244, 2, none⟩ (.int .i64 ((rd_T45 l0_0 x8_1).f2))) = w45 at n0_ n1_ n2_ ⊢
      have BK242 := n0_
      have BK244 := n1_
      have HB := n2_
      clear n0_ n1_ n2_
      replace BK242 := Aside0.mk (blk_drew BK242.out)
      replace BK244 := Aside0.mk (blk_drew BK244.out)
      replace HB := Aside0.mk (below_drew1 HB.out)
      refine start_ (n := 36) (S := fun w' => w'.cell? ⟨gb244, 0, none⟩ = some (.string ((rd_T45 l0_0 x8_1).f0)) ∧ w'.cell? ⟨gb244, 1, none⟩ = some (.string ((rd_T45 l0_0 x8_1).f1)) ∧ w'.cell? ⟨gb244, 2, none⟩ = some (.int .i64 ((rd_T45 l0_0 x8_1).f2))) (ds := []) q12_0 (by kernel_rfl) rfl rfl ⟨zv BK244, zv BK244, zv BK244⟩ (fun hHeld => ?_); refine with_tabW impl_DiskOk.tab4 impl_DiskOk.bits4 (fun HT_ HW_ => ?_)
      generalize w45.drew = w46 at BK242 BK244 HB hHeld ⊢
      refine zP 0 (some 13) q12_1 HT_ ?_
      refine zT 1 (some 14) q12_2 HT_ HW_ hHeld ?_
      refine zP 2 (some 15) q12_3 HT_ ?_
      refine one_ (i := 3) (N := some 16) q12_4 rfl rfl (one_of HT_.out (by kernel_rfl)) (by decide) (fun K hK => ?_)
      refine zH Try.func51 #[.int .i64 (((rd_T45 l0_0 x8_1).f0).size : Int), .int .i64 1, .int .i64 8] ?_
      with_reducible refine (impl_within.calls (((rd_T45 l0_0 x8_1).f0).size : Int) 1 8 false _ A7.out).mono ?_
      rintro e w' ⟨rfl, ⟨nd, rfl⟩⟩
      refine ⟨_, rfl, ?_⟩
      refine hK.out _ _ ⟨zv BK244, zv BK244, zv BK244⟩ (fun hHeld => ?_)
      clear hK K
      refine zN ?_
      refine zP 4 (some 17) q12_5 HT_ ?_
      refine zP 5 (some 18) q12_6 HT_ ?_
      refine zU_ 6 (some 19) q12_7 HT_ ?_
      refine zU_ 7 (some 20) q12_8 HT_ ?_
      refine zU_ 8 (some 21) q12_9 HT_ ?_
      refine zU_ 9 (some 22) q12_10 HT_ ?_
      refine zP 10 (some 23) q12_11 HT_ ?_
      refine zP 11 (some 24) q12_12 HT_ ?_
      refine zU_ 12 (some 25) q12_13 HT_ ?_
      refine zU_ 13 (some 26) q12_14 HT_ ?_
      refine zU_ 14 (some 27) q12_15 HT_ ?_
      refine zU_ 15 (some 28) q12_16 HT_ ?_
      refine zU_ 16 (some 29) q12_17 HT_ ?_
      refine zU_ 17 (some 30) q12_18 HT_ ?_
      refine zU_ 18 (some 31) q12_19 HT_ ?_
      refine zP 19 (some 32) q12_20 HT_ ?_
      refine zP 20 (some 33) q12_21 HT_ ?_
      refine zU_ 21 (some 34) q12_22 HT_ ?_
      refine zU_ 22 (some 35) q12_23 HT_ ?_
      refine zU_ 23 (some 36) q12_24 HT_ ?_
      refine zU_ 24 (some 37) q12_25 HT_ ?_
      refine zU_ 25 (some 38) q12_26 HT_ ?_
      refine zU_ 26 (some 39) q12_27 HT_ ?_
      refine zU_ 27 (some 40) q12_28 HT_ ?_
      refine zU_ 28 (some 41) q12_29 HT_ ?_
      refine zU_ 29 (some 42) q12_30 HT_ ?_
      refine zU_ 30 (some 43) q12_31 HT_ ?_
      refine zU_ 31 (some 44) q12_32 HT_ ?_
      refine zU_ 32 (some 45) q12_33 HT_ ?_
      refine zU_ 33 (some 46) q12_34 HT_ ?_
      refine zU_ 34 (some 47) q12_35 HT_ ?_
      refine zP 35 (some 48) q12_36 HT_ ?_
      refine done_ (done_of HT_.out (by kernel_rfl)) ?_
      try go_wp2
      go_ret
      exact ⟨ze, zw HB⟩
     rw [if_neg c6] at H
     exact absurd H (by simp)
    rw [if_neg c5] at H
    exact absurd H (by simp)
   rw [if_neg c4] at H
   have c4b0 := decide_eq_false c4
   clear c4
   obtain rfl := Option.some.inj H
   obtain ⟨m47_0, n47_0⟩ := zc1 BK242
   go_wp2
   go_ret
   exact ⟨ze, zw HB⟩

end Go.Proofs.Ytdiecogmaiglaaa.PFnExactDoActs
