import Derived.Test.YtdiecogmaiglaaaQFnActsx0
import Derived.Test.YtdiecogmaiglaaaQFnActsx2
namespace Go.Proofs.Ytdiecogmaiglaaa.PFnActs
open Go.RowKit Go.Proofs.YtdiecogmaiglaaaW.PrintWords Go.Proofs.YtdiecogmaiglaaaW.PrintLast Go.Proofs.YtdiecogmaiglaaaW.PrintMore
attribute [local go_sem] max2_int min2_int max_two min_two max_three min_three max_four min_four   -- for this text's walks alone
set_option linter.unusedVariables false
set_option linter.unusedSimpArgs false

/-! ### impl_DiskOk: function 15 -/
def impl_DiskOk.l0 : Nat → List (S45) → Int → Int → List (S45) → Option (Bool)
 | 0, _, _, _, _ => none
 | k + 1, x6, x7, x8, x109000 => if x8 < x7 then (if 0 ≤ x8 then (if x8 < (x6.length : Int) then ((impl_within.f (((rd_T45 x6 x8).f0).size : Int) 1 8).bind fun t111 => (if t111 = true then (if (((rd_T45 x6 x8).f1).size : Int) > 20000 then (some false) else ((impl_within.f ((rd_T45 x6 x8).f2) 0 (((rd_T45 x6 x8).f1).size : Int)).bind fun t112 => (if t112 = true then (if x8 > 0 then (if 0 ≤ (wrap64 (x8 - 1)) then (if (wrap64 (x8 - 1)) < (x109000.length : Int) then (if ((Op.bytesLess (((rd_T45 x109000 (wrap64 (x8 - 1))).f0).toList) (((rd_T45 x6 x8).f0).toList)) = true) then (impl_DiskOk.l0 k x6 x7 (wrap64 (x8 + 1)) x109000) else (some false)) else (none)) else (none)) else (impl_DiskOk.l0 k x6 x7 (wrap64 (x8 + 1)) x109000)) else (some false)))) else (some false))) else (none)) else (none)) else (some (decide ((x109000.length : Int) ≤ 30)))
def impl_DiskOk.f (k : Nat) (l0_0 : List (S45)) : Option (Bool) := impl_DiskOk.l0 k l0_0 (l0_0.length : Int) 0 l0_0
theorem impl_DiskOk.mono_l : ∀ k, (∀ y0 y1 y2 y3, LeO (impl_DiskOk.l0 k y0 y1 y2 y3) (impl_DiskOk.l0 (k + 1) y0 y1 y2 y3))
 | 0 => fun _ _ _ _ r h => by simp [impl_DiskOk.l0] at h
 | k + 1 => by
  have ih0 := impl_DiskOk.mono_l k
  intro y0 y1 y2 y3
  unfold impl_DiskOk.l0
  repeat' first
  | (with_reducible exact ih0 _ _ _ _)
  | (with_reducible exact LeO.refl _)
  | (with_reducible exact LeO.none _)
  | (with_reducible refine LeO.ite ?_ ?_)
  | (with_reducible refine LeO.bind ?_ (fun _ => ?_))
  | exact ih0 _ _ _ _
  | exact LeO.none _
  | refine LeO.ite ?_ ?_
  | refine LeO.bind ?_ (fun _ => ?_)
theorem impl_DiskOk.mono : ∀ a0 k, LeO (impl_DiskOk.f k a0) (impl_DiskOk.f (k + 1) a0) := by
 intro a0 k
 have ih0 := impl_DiskOk.mono_l k
 unfold impl_DiskOk.f
 repeat' first
   | (with_reducible exact ih0 _ _ _ _)
   | (with_reducible exact LeO.refl _)
   | (with_reducible exact LeO.none _)
   | (with_reducible refine LeO.ite ?_ ?_)
   | (with_reducible refine LeO.bind ?_ (fun _ => ?_))
   | exact ih0 _ _ _ _
   | exact LeO.none _
   | refine LeO.ite ?_ ?_
   | refine LeO.bind ?_ (fun _ => ?_)
def impl_DiskOk.T4 : Bool × List (List Nat × List Nat) := (true, [([], []), ([0], [0]), ([1], [1]), ([2], [2]), ([3], [3]), ([4, 3], [4]), ([5], [5]), ([6, 5], [5, 6]), ([7, 5], [5, 7]), ([8, 5], [5, 8]), ([5, 9], [5, 9]), ([10, 5], [10]), ([11], [11]), ([12, 11], [11, 12]), ([11], [11]), ([14, 11], [11, 14]), ([15, 11], [11, 15]), ([13, 16, 11, 11], [11, 13, 16]), ([17, 11], [11, 17]), ([11, 18], [11, 18]), ([19, 17], [19]), ([20], [20]), ([21, 20], [20, 21]), ([22, 20, 20], [20, 22]), ([23], [23]), ([24, 23], [23, 24]), ([23], [23]), ([26, 23], [23, 26]), ([25, 27, 23], [23, 25, 27]), ([28, 23], [23, 28]), ([29, 23], [23, 29]), ([23], [23]), ([31, 23], [23, 31]), ([30, 32, 23], [23, 30, 32]), ([23, 33, 20], [20, 23, 33]), ([20, 34], [20, 34])])
def impl_DiskOk.B4 : List Nat := [0, 1, 3, 7, 15, 31, 63, 127, 255, 511, 1023, 2047, 4095, 8191, 4095, 20479, 53247, 131071, 262143, 524287, 1048575, 2097151, 4194303, 8388607, 16777215, 33554431, 16777215, 83886079, 268435455, 536870911, 1073741823, 16777215, 2164260863, 8589934591, 17179869183, 34359738367]
theorem impl_DiskOk.tab4 : rtab .any (opsOf Try.f15 4) = impl_DiskOk.T4 := by kernel_rfl
theorem impl_DiskOk.bits4 : waitsOk impl_DiskOk.T4.2 impl_DiskOk.B4 = true := by kernel_rfl
abbrev q3_0 := #[o_,o_,o_,o_,o_,o_,o_,o_,o_,o_,o_,o_,o_,o_,o_,o_,o_,o_,o_,o_,o_,o_,o_,o_,o_,o_,o_,o_,o_,o_,o_,o_,o_,o_,o_,o_]
abbrev q3_1 := #[i_,o_,o_,o_,o_,o_,o_,o_,o_,o_,o_,o_,o_,o_,o_,o_,o_,o_,o_,o_,o_,o_,o_,o_,o_,o_,o_,o_,o_,o_,o_,o_,o_,o_,o_,o_]
abbrev q3_2 := #[i_,i_,o_,o_,o_,o_,o_,o_,o_,o_,o_,o_,o_,o_,o_,o_,o_,o_,o_,o_,o_,o_,o_,o_,o_,o_,o_,o_,o_,o_,o_,o_,o_,o_,o_,o_]
abbrev q3_3 := #[i_,i_,i_,o_,o_,o_,o_,o_,o_,o_,o_,o_,o_,o_,o_,o_,o_,o_,o_,o_,o_,o_,o_,o_,o_,o_,o_,o_,o_,o_,o_,o_,o_,o_,o_,o_]
abbrev q3_4 := #[i_,i_,i_,i_,o_,o_,o_,o_,o_,o_,o_,o_,o_,o_,o_,o_,o_,o_,o_,o_,o_,o_,o_,o_,o_,o_,o_,o_,o_,o_,o_,o_,o_,o_,o_,o_]
abbrev q3_5 := #[i_,i_,i_,i_,i_,o_,o_,o_,o_,o_,o_,o_,o_,o_,o_,o_,o_,o_,o_,o_,o_,o_,o_,o_,o_,o_,o_,o_,o_,o_,o_,o_,o_,o_,o_,o_]
abbrev q3_6 := #[i_,i_,i_,i_,i_,i_,o_,o_,o_,o_,o_,o_,o_,o_,o_,o_,o_,o_,o_,o_,o_,o_,o_,o_,o_,o_,o_,o_,o_,o_,o_,o_,o_,o_,o_,o_]
abbrev q3_7 := #[i_,i_,i_,i_,i_,i_,i_,o_,o_,o_,o_,o_,o_,o_,o_,o_,o_,o_,o_,o_,o_,o_,o_,o_,o_,o_,o_,o_,o_,o_,o_,o_,o_,o_,o_,o_]
abbrev q3_8 := #[i_,i_,i_,i_,i_,i_,i_,i_,o_,o_,o_,o_,o_,o_,o_,o_,o_,o_,o_,o_,o_,o_,o_,o_,o_,o_,o_,o_,o_,o_,o_,o_,o_,o_,o_,o_]
abbrev q3_9 := #[i_,i_,i_,i_,i_,i_,i_,i_,i_,o_,o_,o_,o_,o_,o_,o_,o_,o_,o_,o_,o_,o_,o_,o_,o_,o_,o_,o_,o_,o_,o_,o_,o_,o_,o_,o_]
abbrev q3_10 := #[i_,i_,i_,i_,i_,i_,i_,i_,i_,i_,o_,o_,o_,o_,o_,o_,o_,o_,o_,o_,o_,o_,o_,o_,o_,o_,o_,o_,o_,o_,o_,o_,o_,o_,o_,o_]
abbrev q3_11 := #[i_,i_,i_,i_,i_,i_,i_,i_,i_,i_,i_,o_,o_,o_,o_,o_,o_,o_,o_,o_,o_,o_,o_,o_,o_,o_,o_,o_,o_,o_,o_,o_,o_,o_,o_,o_]
abbrev q3_12 := #[i_,i_,i_,i_,i_,i_,i_,i_,i_,i_,i_,i_,o_,o_,o_,o_,o_,o_,o_,o_,o_,o_,o_,o_,o_,o_,o_,o_,o_,o_,o_,o_,o_,o_,o_,o_]
abbrev q3_13 := #[i_,i_,i_,i_,i_,i_,i_,i_,i_,i_,i_,i_,i_,o_,o_,o_,o_,o_,o_,o_,o_,o_,o_,o_,o_,o_,o_,o_,o_,o_,o_,o_,o_,o_,o_,o_]
abbrev q3_14 := #[i_,i_,i_,i_,i_,i_,i_,i_,i_,i_,i_,i_,i_,i_,o_,o_,o_,o_,o_,o_,o_,o_,o_,o_,o_,o_,o_,o_,o_,o_,o_,o_,o_,o_,o_,o_]
abbrev q3_15 := #[i_,i_,i_,i_,i_,i_,i_,i_,i_,i_,i_,i_,i_,i_,i_,o_,o_,o_,o_,o_,o_,o_,o_,o_,o_,o_,o_,o_,o_,o_,o_,o_,o_,o_,o_,o_]
abbrev q3_16 := #[i_,i_,i_,i_,i_,i_,i_,i_,i_,i_,i_,i_,i_,i_,i_,i_,o_,o_,o_,o_,o_,o_,o_,o_,o_,o_,o_,o_,o_,o_,o_,o_,o_,o_,o_,o_]
abbrev q3_17 := #[i_,i_,i_,i_,i_,i_,i_,i_,i_,i_,i_,i_,i_,i_,i_,i_,i_,o_,o_,o_,o_,o_,o_,o_,o_,o_,o_,o_,o_,o_,o_,o_,o_,o_,o_,o_]
abbrev q3_18 := #[i_,i_,i_,i_,i_,i_,i_,i_,i_,i_,i_,i_,i_,i_,i_,i_,i_,i_,o_,o_,o_,o_,o_,o_,o_,o_,o_,o_,o_,o_,o_,o_,o_,o_,o_,o_]
abbrev q3_19 := #[i_,i_,i_,i_,i_,i_,i_,i_,i_,i_,i_,i_,i_,i_,i_,i_,i_,i_,i_,o_,o_,o_,o_,o_,o_,o_,o_,o_,o_,o_,o_,o_,o_,o_,o_,o_]
abbrev q3_20 := #[i_,i_,i_,i_,i_,i_,i_,i_,i_,i_,i_,i_,i_,i_,i_,i_,i_,i_,i_,i_,o_,o_,o_,o_,o_,o_,o_,o_,o_,o_,o_,o_,o_,o_,o_,o_]
abbrev q3_21 := #[i_,i_,i_,i_,i_,i_,i_,i_,i_,i_,i_,i_,i_,i_,i_,i_,i_,i_,i_,i_,i_,o_,o_,o_,o_,o_,o_,o_,o_,o_,o_,o_,o_,o_,o_,o_]
abbrev q3_22 := #[i_,i_,i_,i_,i_,i_,i_,i_,i_,i_,i_,i_,i_,i_,i_,i_,i_,i_,i_,i_,i_,i_,o_,o_,o_,o_,o_,o_,o_,o_,o_,o_,o_,o_,o_,o_]
abbrev q3_23 := #[i_,i_,i_,i_,i_,i_,i_,i_,i_,i_,i_,i_,i_,i_,i_,i_,i_,i_,i_,i_,i_,i_,i_,o_,o_,o_,o_,o_,o_,o_,o_,o_,o_,o_,o_,o_]
abbrev q3_24 := #[i_,i_,i_,i_,i_,i_,i_,i_,i_,i_,i_,i_,i_,i_,i_,i_,i_,i_,i_,i_,i_,i_,i_,i_,o_,o_,o_,o_,o_,o_,o_,o_,o_,o_,o_,o_]
abbrev q3_25 := #[i_,i_,i_,i_,i_,i_,i_,i_,i_,i_,i_,i_,i_,i_,i_,i_,i_,i_,i_,i_,i_,i_,i_,i_,i_,o_,o_,o_,o_,o_,o_,o_,o_,o_,o_,o_]
abbrev q3_26 := #[i_,i_,i_,i_,i_,i_,i_,i_,i_,i_,i_,i_,i_,i_,i_,i_,i_,i_,i_,i_,i_,i_,i_,i_,i_,i_,o_,o_,o_,o_,o_,o_,o_,o_,o_,o_]
abbrev q3_27 := #[i_,i_,i_,i_,i_,i_,i_,i_,i_,i_,i_,i_,i_,i_,i_,i_,i_,i_,i_,i_,i_,i_,i_,i_,i_,i_,i_,o_,o_,o_,o_,o_,o_,o_,o_,o_]
abbrev q3_28 := #[i_,i_,i_,i_,i_,i_,i_,i_,i_,i_,i_,i_,i_,i_,i_,i_,i_,i_,i_,i_,i_,i_,i_,i_,i_,i_,i_,i_,o_,o_,o_,o_,o_,o_,o_,o_]
abbrev q3_29 := #[i_,i_,i_,i_,i_,i_,i_,i_,i_,i_,i_,i_,i_,i_,i_,i_,i_,i_,i_,i_,i_,i_,i_,i_,i_,i_,i_,i_,i_,o_,o_,o_,o_,o_,o_,o_]
abbrev q3_30 := #[i_,i_,i_,i_,i_,i_,i_,i_,i_,i_,i_,i_,i_,i_,i_,i_,i_,i_,i_,i_,i_,i_,i_,i_,i_,i_,i_,i_,i_,i_,o_,o_,o_,o_,o_,o_]
abbrev q3_31 := #[i_,i_,i_,i_,i_,i_,i_,i_,i_,i_,i_,i_,i_,i_,i_,i_,i_,i_,i_,i_,i_,i_,i_,i_,i_,i_,i_,i_,i_,i_,i_,o_,o_,o_,o_,o_]
abbrev q3_32 := #[i_,i_,i_,i_,i_,i_,i_,i_,i_,i_,i_,i_,i_,i_,i_,i_,i_,i_,i_,i_,i_,i_,i_,i_,i_,i_,i_,i_,i_,i_,i_,i_,o_,o_,o_,o_]
abbrev q3_33 := #[i_,i_,i_,i_,i_,i_,i_,i_,i_,i_,i_,i_,i_,i_,i_,i_,i_,i_,i_,i_,i_,i_,i_,i_,i_,i_,i_,i_,i_,i_,i_,i_,i_,o_,o_,o_]
abbrev q3_34 := #[i_,i_,i_,i_,i_,i_,i_,i_,i_,i_,i_,i_,i_,i_,i_,i_,i_,i_,i_,i_,i_,i_,i_,i_,i_,i_,i_,i_,i_,i_,i_,i_,i_,i_,o_,o_]
abbrev q3_35 := #[i_,i_,i_,i_,i_,i_,i_,i_,i_,i_,i_,i_,i_,i_,i_,i_,i_,i_,i_,i_,i_,i_,i_,i_,i_,i_,i_,i_,i_,i_,i_,i_,i_,i_,i_,o_]
abbrev q3_36 := #[i_,i_,i_,i_,i_,i_,i_,i_,i_,i_,i_,i_,i_,i_,i_,i_,i_,i_,i_,i_,i_,i_,i_,i_,i_,i_,i_,i_,i_,i_,i_,i_,i_,i_,i_,i_]
abbrev q3_37 := #[i_,i_,i_,i_,i_,i_,i_,i_,i_,i_,i_,i_,i_,o_,i_,o_,o_,o_,o_,o_,o_,o_,o_,o_,o_,o_,o_,o_,o_,o_,o_,o_,o_,o_,o_,o_]
abbrev q3_38 := #[i_,i_,i_,i_,i_,i_,i_,i_,i_,i_,i_,i_,i_,i_,i_,i_,i_,i_,i_,i_,i_,i_,i_,i_,i_,o_,i_,o_,o_,o_,o_,o_,o_,o_,o_,o_]
abbrev q3_39 := #[i_,i_,i_,i_,i_,i_,i_,i_,i_,i_,i_,i_,i_,i_,i_,i_,i_,i_,i_,i_,i_,i_,i_,i_,i_,o_,i_,i_,o_,o_,o_,o_,o_,o_,o_,o_]
abbrev q3_40 := #[i_,i_,i_,i_,i_,i_,i_,i_,i_,i_,i_,i_,i_,i_,i_,i_,i_,i_,i_,i_,i_,i_,i_,i_,i_,o_,i_,i_,o_,o_,o_,i_,o_,o_,o_,o_]
abbrev q3_41 := #[i_,i_,i_,i_,i_,i_,i_,i_,i_,i_,i_,i_,i_,i_,i_,i_,i_,i_,i_,i_,i_,i_,i_,i_,i_,i_,i_,i_,o_,o_,o_,i_,o_,o_,o_,o_]
abbrev q3_42 := #[i_,i_,i_,i_,i_,i_,i_,i_,i_,i_,i_,i_,i_,i_,i_,i_,i_,i_,i_,i_,i_,i_,i_,i_,i_,i_,i_,i_,i_,o_,o_,i_,o_,o_,o_,o_]
abbrev q3_43 := #[i_,i_,i_,i_,i_,i_,i_,i_,i_,i_,i_,i_,i_,i_,i_,i_,i_,i_,i_,i_,i_,i_,i_,i_,i_,i_,i_,i_,i_,i_,o_,i_,o_,o_,o_,o_]
set_option maxHeartbeats 8000000 in
set_option maxRecDepth 100000 in
theorem impl_DiskOk.calls (k : Nat) (A0_0 : Option Addr) (c0_0 : Nat) (l0_0 : List (S45)) (r : Bool) (w : World) (hr0_0 : Kd.C k45 w A0_0 l0_0.length l0_0) (hc0_0 : l0_0.length ≤ c0_0) (h : impl_DiskOk.f k l0_0 = some r) :
  Calls Try.prog 15 #[.agg #[.slice A0_0 l0_0.length c0_0]] w fun e w' => e = .returned (.bool r) ∧ Below w.heap.size w w' := by
 have hu29 := Try.underlying29
 have hu45 := Try.underlying45
 have HR0_0 := Aside0.mk hr0_0
 have HC0_0 := Aside0.mk hc0_0
 clear hr0_0 hc0_0
 have HB := Aside0.mk (Below.refl w.heap.size w)
 have H : (impl_DiskOk.l0 k l0_0 (l0_0.length : Int) 0 l0_0) = some r := h
 clear h
 have H' := Aside0.mk H
 clear H
 go_enter Try.func15, Try.ntmps15
 go_wp2_with (first | ((with_reducible refine gate_dst (N := 1) rfl ?_); (try (refine gate_guard (by rfl) ?_; dsimp only)); refine zx (N := 1) (cs := #[.slice A0_0 l0_0.length c0_0]) (t := 29) ?_; intro Bb hg w2 hbox hb; have Ac := Aside0.mk (hbox); have GW108 := zg HB hg; have GE108 := zg HB hg; replace HB := zs HB hb; clear hb hbox hg; obtain ⟨Br, Bq⟩ := zc1 Ac))
 go_loopg [8] k (fun kq v8 w' => ∃ (Ab : Int), v8 = .int .i64 Ab ∧ Aside0 (impl_DiskOk.l0 kq l0_0 (l0_0.length : Int) Ab l0_0 = some r) ∧ Aside0 (kq ≤ k) ∧ Aside0 (w'.heap[Bb]? = some (.cells #[(.slice A0_0 l0_0.length c0_0)] 29 (0, 0))) ∧ Aside0 (Below w.heap.size w w'))
 case atStart => exact ⟨(0), zf, H', ⟨Nat.le_refl _⟩, ⟨zkf Ac⟩, ⟨zw HB⟩⟩
 case round =>
  clear H'
  try clear c1
  try clear p2
  try clear Br Bq
  obtain ⟨Ab, rfl, HA, Bn, Ac, HB⟩ := hrel
  cases gk with
  | zero => exact absurd HA.out (by simp [impl_DiskOk.l0])
  | succ k1 =>
   have H := HA.out
   clear HA
   simp only [impl_DiskOk.l0] at H
   by_cases c4 : Ab < (l0_0.length : Int)
   ·rw [if_pos c4] at H
    have Bu := decide_eq_true c4
    clear c4
    by_cases c5 : 0 ≤ Ab
    ·rw [if_pos c5] at H
     have c5b0 := decide_eq_true c5
     clear c5
     by_cases c6 : Ab < (l0_0.length : Int)
     ·rw [if_pos c6] at H
      have c6b0 := decide_eq_true c6
      clear c6
      replace H := Option.bind_eq_some_iff.mp H
      obtain ⟨Bp, B2, H⟩ := H
      have A7 := Aside0.mk B2
      clear B2
      by_cases c8 : Bp = true
      ·subst c8
       rw [if_pos rfl] at H
       by_cases c9 : (((rd_T45 l0_0 Ab).f1).size : Int) > 20000
       ·rw [if_pos c9] at H
        have Bt : decide (20000 < (((rd_T45 l0_0 Ab).f1).size : Int)) = true := decide_eq_true c9
        have Bs : decide (20000 < ((rd_T45 l0_0 Ab).f1).size) = true := decide_eq_true (by omega)
        clear c9
        obtain rfl := Option.some.inj H
        have Aq : 0 ≤ (Ab : Int) := of_decide_eq_true za
        have Ap : Ab < (l0_0.length : Int) := of_decide_eq_true za
        obtain ⟨Ak, Aw, Ag, Af, Ae⟩ := at_T45 HR0_0.out Ab Aq Ap
        cases Aw
        replace Ag := zU HB.out Ag
        replace Af := zU HB.out Af
        replace Ae := zU HB.out Ae
        replace Aq := eq_true Aq
        replace Ap := eq_true Ap
        try go_wp2_with (first | ((with_reducible refine gate_dst (N := 4) rfl ?_); (try (refine gate_guard (by rfl) ?_; dsimp only)); refine zx (N := 4) (cs := #[.string (⟨#[]⟩ : ByteArray), .string (⟨#[]⟩ : ByteArray), .int .i64 0]) (t := 45) ?_; intro Ad hg Ce hbox hb; have Aa := Aside0.mk (hbox); have Ax := zg HB hg; have Ay := zg HB hg; replace HB := zs HB hb; have Ai := zl Ac hg; have Ah := zr Ac hg; replace Ac := zb Ac hb; clear hb hbox hg; have hnb11 := Ah.out; have hnc11 := Ai.out; obtain ⟨_, _, _, _, _, _⟩ := zc3 Aa))
        obtain ⟨B1, hq_⟩ : ∃ v_, ((Ce.setCell ⟨Ad, 0, none⟩ (.string ((rd_T45 l0_0 Ab).f0))).setCell ⟨Ad, 1, none⟩ (.string ((rd_T45 l0_0 Ab).f1))).setCell ⟨Ad, 2, none⟩ (.int .i64 ((rd_T45 l0_0 Ab).f2)) = v_ := ⟨_, rfl⟩
        replace Ac := zjq hq_ Ac
        replace Aa : Aside0 (B1.heap[Ad]? = some (.cells #[.string ((rd_T45 l0_0 Ab).f0), .string ((rd_T45 l0_0 Ab).f1), .int .i64 ((rd_T45 l0_0 Ab).f2)] 45 (0, 0))) := ⟨hq_ ▸ (zj Aa)⟩
        replace HB := zwq hq_ HB
        (try rw [hq_])
        clear hq_
        replace Ac := zd1 Ac
        replace Aa := zd1 Aa
        replace HB := zd2 HB
        refine start_ (n := 36) (S := fun w' => w'.cell? ⟨Ad, 0, none⟩ = some (.string ((rd_T45 l0_0 Ab).f0)) ∧ w'.cell? ⟨Ad, 1, none⟩ = some (.string ((rd_T45 l0_0 Ab).f1)) ∧ w'.cell? ⟨Ad, 2, none⟩ = some (.int .i64 ((rd_T45 l0_0 Ab).f2))) (ds := []) q3_0 (by kernel_rfl) rfl rfl ⟨zv Aa, zv Aa, zv Aa⟩ (fun hHeld => ?_); refine with_tabW impl_DiskOk.tab4 impl_DiskOk.bits4 (fun HT_ HW_ => ?_)
        generalize B1.drew = w14 at Ac Aa HB hHeld ⊢
        refine zP 0 (some 13) q3_1 HT_ ?_
        refine zT 1 (some 14) q3_2 HT_ HW_ hHeld ?_
        refine zP 2 (some 15) q3_3 HT_ ?_
        refine one_ (i := 3) (N := some 16) q3_4 rfl rfl (one_of HT_.out (by kernel_rfl)) (by decide) (fun K hK => ?_)
        refine zH Try.func51 #[.int .i64 (((rd_T45 l0_0 Ab).f0).size : Int), .int .i64 1, .int .i64 8] ?_
        with_reducible refine (impl_within.calls (((rd_T45 l0_0 Ab).f0).size : Int) 1 8 true _ A7.out).mono ?_
        rintro e w' ⟨rfl, ⟨nd, rfl⟩⟩
        refine ⟨_, rfl, ?_⟩
        refine hK.out _ _ ⟨zv Aa, zv Aa, zv Aa⟩ (fun hHeld => ?_)
        clear hK K
        refine zN ?_
        refine zP 4 (some 17) q3_5 HT_ ?_
        refine zP 5 (some 18) q3_6 HT_ ?_
        refine zP 6 (some 19) q3_7 HT_ ?_
        refine zT 7 (some 20) q3_8 HT_ HW_ hHeld ?_
        refine zP 8 (some 21) q3_9 HT_ ?_
        refine zP 9 (some 22) q3_10 HT_ ?_
        refine zP 10 (some 23) q3_11 HT_ ?_
        refine zP 11 (some 24) q3_12 HT_ ?_
        refine zU_ 12 (some 25) q3_13 HT_ ?_
        refine zU_ 13 (some 26) q3_14 HT_ ?_
        refine zU_ 14 (some 27) q3_15 HT_ ?_
        refine zU_ 15 (some 28) q3_16 HT_ ?_
        refine zU_ 16 (some 29) q3_17 HT_ ?_
        refine zU_ 17 (some 30) q3_18 HT_ ?_
        refine zU_ 18 (some 31) q3_19 HT_ ?_
        refine zP 19 (some 32) q3_20 HT_ ?_
        refine zP 20 (some 33) q3_21 HT_ ?_
        refine zU_ 21 (some 34) q3_22 HT_ ?_
        refine zU_ 22 (some 35) q3_23 HT_ ?_
        refine zU_ 23 (some 36) q3_24 HT_ ?_
        refine zU_ 24 (some 37) q3_25 HT_ ?_
        refine zU_ 25 (some 38) q3_26 HT_ ?_
        refine zU_ 26 (some 39) q3_27 HT_ ?_
        refine zU_ 27 (some 40) q3_28 HT_ ?_
        refine zU_ 28 (some 41) q3_29 HT_ ?_
        refine zU_ 29 (some 42) q3_30 HT_ ?_
        refine zU_ 30 (some 43) q3_31 HT_ ?_
        refine zU_ 31 (some 44) q3_32 HT_ ?_
        refine zU_ 32 (some 45) q3_33 HT_ ?_
        refine zU_ 33 (some 46) q3_34 HT_ ?_
        refine zU_ 34 (some 47) q3_35 HT_ ?_
        refine zP 35 (some 48) q3_36 HT_ ?_
        refine done_ (done_of HT_.out (by kernel_rfl)) ?_
        try go_wp2
        go_ret
        exact ⟨ze, zw HB⟩
       rw [if_neg c9] at H
       have Bt : decide (20000 < (((rd_T45 l0_0 Ab).f1).size : Int)) = false := decide_eq_false c9
       have Bs : decide (20000 < ((rd_T45 l0_0 Ab).f1).size) = false := decide_eq_false (by omega)
       clear c9
       replace H := Option.bind_eq_some_iff.mp H
       obtain ⟨Bo, Bi, H⟩ := H
       have Bj := Aside0.mk Bi
       clear Bi
       by_cases Bm : Bo = true
       ·subst Bm
        rw [if_pos rfl] at H
        by_cases Bf : Ab > 0
        ·rw [if_pos Bf] at H
         have Bh : decide (0 < Ab) = true := decide_eq_true Bf
         clear Bf
         obtain ⟨Aj, hji18⟩ : ∃ j_ : Int, (wrap64 (Ab - 1)) = j_ := ⟨_, rfl⟩
         replace H : (if 0 ≤ (Aj) then (if (Aj) < (l0_0.length : Int) then (if ((Op.bytesLess (((rd_T45 l0_0 (Aj)).f0).toList) (((rd_T45 l0_0 Ab).f0).toList)) = true) then (impl_DiskOk.l0 k1 l0_0 (l0_0.length : Int) (wrap64 (Ab + 1)) l0_0) else (some false)) else (none)) else (none)) = some r := by first | (rw [hji18] at H; exact H) | (simp only [hji18] at H ⊢; exact H)
         (try rw [hji18] at A7)
         (try rw [hji18] at Bj)
         have hji18w : (IntKind.i64.wrap (Ab - 1)) = Aj := (i64_w _).trans hji18
         by_cases Bl : 0 ≤ (Aj)
         ·rw [if_pos Bl] at H
          have c19b0 := decide_eq_true Bl
          clear Bl
          by_cases Bk : (Aj) < (l0_0.length : Int)
          ·rw [if_pos Bk] at H
           have c20b0 := decide_eq_true Bk
           clear Bk
           by_cases Be : ((Op.bytesLess (((rd_T45 l0_0 (Aj)).f0).toList) (((rd_T45 l0_0 Ab).f0).toList)) = true)
           ·rw [if_pos Be] at H
            have Bg : (Op.bytesLess (((rd_T45 l0_0 (Aj)).f0).toList) (((rd_T45 l0_0 Ab).f0).toList)) = true := Be
            clear Be
            have H' := Aside0.mk H
            clear H
            have Aq : 0 ≤ (Ab : Int) := of_decide_eq_true za
            have Ap : Ab < (l0_0.length : Int) := of_decide_eq_true za
            obtain ⟨Ak, Aw, Ag, Af, Ae⟩ := at_T45 HR0_0.out Ab Aq Ap
            cases Aw
            replace Ag := zU HB.out Ag
            replace Af := zU HB.out Af
            replace Ae := zU HB.out Ae
            replace Aq := eq_true Aq
            replace Ap := eq_true Ap
            try go_wp2_with (first | ((with_reducible refine gate_dst (N := 4) rfl ?_); (try (refine gate_guard (by rfl) ?_; dsimp only)); refine zx (N := 4) (cs := #[.string (⟨#[]⟩ : ByteArray), .string (⟨#[]⟩ : ByteArray), .int .i64 0]) (t := 45) ?_; intro Ad hg Cd hbox hb; have Aa := Aside0.mk (hbox); have Ax := zg HB hg; have Ay := zg HB hg; replace HB := zs HB hb; have Ai := zl Ac hg; have Ah := zr Ac hg; replace Ac := zb Ac hb; clear hb hbox hg; have hnb23 := Ah.out; have hnc23 := Ai.out; obtain ⟨_, _, _, _, _, _⟩ := zc3 Aa))
            obtain ⟨B0, hq_⟩ : ∃ v_, ((Cd.setCell ⟨Ad, 0, none⟩ (.string ((rd_T45 l0_0 Ab).f0))).setCell ⟨Ad, 1, none⟩ (.string ((rd_T45 l0_0 Ab).f1))).setCell ⟨Ad, 2, none⟩ (.int .i64 ((rd_T45 l0_0 Ab).f2)) = v_ := ⟨_, rfl⟩
            replace Ac := zjq hq_ Ac
            replace Aa : Aside0 (B0.heap[Ad]? = some (.cells #[.string ((rd_T45 l0_0 Ab).f0), .string ((rd_T45 l0_0 Ab).f1), .int .i64 ((rd_T45 l0_0 Ab).f2)] 45 (0, 0))) := ⟨hq_ ▸ (zj Aa)⟩
            replace HB := zwq hq_ HB
            (try rw [hq_])
            clear hq_
            replace Ac := zd1 Ac
            replace Aa := zd1 Aa
            replace HB := zd2 HB
            have Ba : 0 ≤ ((Aj) : Int) := of_decide_eq_true za
            have Az : (Aj) < (l0_0.length : Int) := of_decide_eq_true za
            obtain ⟨Bc, Bd, Ao, Am, Al⟩ := at_T45 HR0_0.out (Aj) Ba Az
            have Ar := Al
            have As := Am
            have Au := Ao
            obtain rfl : Ak = Bc := (by injection Bd)
            replace Ao := zU HB.out Ao
            replace Am := zU HB.out Am
            replace Al := zU HB.out Al
            replace Ba := eq_true Ba
            replace Az := eq_true Az
            refine start_ (n := 36) (S := fun w' => w'.cell? ⟨Ad, 0, none⟩ = some (.string ((rd_T45 l0_0 Ab).f0)) ∧ w'.cell? ⟨Ad, 1, none⟩ = some (.string ((rd_T45 l0_0 Ab).f1)) ∧ w'.cell? ⟨Ad, 2, none⟩ = some (.int .i64 ((rd_T45 l0_0 Ab).f2)) ∧ w'.cell? ⟨Bb, 0, none⟩ = some (.slice (some Ak) l0_0.length c0_0) ∧ w'.cell? (Ak.add (((Aj)).toNat * 3)) = some (.string ((rd_T45 l0_0 (Aj)).f0)) ∧ w'.cell? ⟨(Ak.add (((Aj)).toNat * 3)).block, (Ak.add (((Aj)).toNat * 3)).off + 1, none⟩ = some (.string ((rd_T45 l0_0 (Aj)).f1)) ∧ w'.cell? ⟨(Ak.add (((Aj)).toNat * 3)).block, (Ak.add (((Aj)).toNat * 3)).off + 2, none⟩ = some (.int .i64 ((rd_T45 l0_0 (Aj)).f2))) (ds := []) q3_0 (by kernel_rfl) rfl rfl ⟨zv Aa, zv Aa, zv Aa, zv Ac, (zU HB.out Au), (zU HB.out As), (zU HB.out Ar)⟩ (fun hHeld => ?_); refine with_tabW impl_DiskOk.tab4 impl_DiskOk.bits4 (fun HT_ HW_ => ?_)
            generalize B0.drew = w26 at Ac Aa HB Ao Am Al hHeld ⊢
            refine zP 0 (some 13) q3_1 HT_ ?_
            refine zT 1 (some 14) q3_2 HT_ HW_ hHeld ?_
            refine zP 2 (some 15) q3_3 HT_ ?_
            refine one_ (i := 3) (N := some 16) q3_4 rfl rfl (one_of HT_.out (by kernel_rfl)) (by decide) (fun K hK => ?_)
            refine zH Try.func51 #[.int .i64 (((rd_T45 l0_0 Ab).f0).size : Int), .int .i64 1, .int .i64 8] ?_
            with_reducible refine (impl_within.calls (((rd_T45 l0_0 Ab).f0).size : Int) 1 8 true _ A7.out).mono ?_
            rintro e w' ⟨rfl, ⟨nd, rfl⟩⟩
            refine ⟨_, rfl, ?_⟩
            refine hK.out _ _ ⟨zv Aa, zv Aa, zv Aa, zv Ac, (zU HB.out Au), (zU HB.out As), (zU HB.out Ar)⟩ (fun hHeld => ?_)
            clear hK K
            refine zN ?_
            refine zP 4 (some 17) q3_5 HT_ ?_
            refine zP 5 (some 18) q3_6 HT_ ?_
            refine zP 6 (some 19) q3_7 HT_ ?_
            refine zT 7 (some 20) q3_8 HT_ HW_ hHeld ?_
            refine zP 8 (some 21) q3_9 HT_ ?_
            refine zP 9 (some 22) q3_10 HT_ ?_
            refine zP 10 (some 23) q3_11 HT_ ?_
            refine zP 11 (some 24) q3_12 HT_ ?_
            refine zP 12 (some 25) q3_13 HT_ ?_
            refine zP 14 (some 27) q3_37 HT_ ?_
            refine zT 13 (some 26) q3_15 HT_ HW_ hHeld ?_
            refine zT 15 (some 28) q3_16 HT_ HW_ hHeld ?_
            refine zP 16 (some 29) q3_17 HT_ ?_
            refine one_ (i := 17) (N := some 30) q3_18 rfl rfl (one_of HT_.out (by kernel_rfl)) (by decide) (fun K hK => ?_)
            refine zH Try.func51 #[.int .i64 ((rd_T45 l0_0 Ab).f2), .int .i64 0, .int .i64 (((rd_T45 l0_0 Ab).f1).size : Int)] ?_
            with_reducible refine (impl_within.calls ((rd_T45 l0_0 Ab).f2) 0 (((rd_T45 l0_0 Ab).f1).size : Int) true _ Bj.out).mono ?_
            rintro e w' ⟨rfl, ⟨nd, rfl⟩⟩
            refine ⟨_, rfl, ?_⟩
            refine hK.out _ _ ⟨zv Aa, zv Aa, zv Aa, zv Ac, (zU HB.out Au), (zU HB.out As), (zU HB.out Ar)⟩ (fun hHeld => ?_)
            clear hK K
            refine zN ?_
            refine zP 18 (some 31) q3_19 HT_ ?_
            refine zP 19 (some 32) q3_20 HT_ ?_
            refine zP 20 (some 33) q3_21 HT_ ?_
            refine zP 21 (some 34) q3_22 HT_ ?_
            refine zP 22 (some 35) q3_23 HT_ ?_
            refine zP 23 (some 36) q3_24 HT_ ?_
            refine zP 24 (some 37) q3_25 HT_ ?_
            refine zP 26 (some 39) q3_38 HT_ ?_
            refine zP 27 (some 40) q3_39 HT_ ?_
            refine zP 31 (some 44) q3_40 HT_ ?_
            refine zT 25 (some 38) q3_41 HT_ HW_ hHeld ?_
            refine zP 28 (some 41) q3_42 HT_ ?_
            refine zP 29 (some 42) q3_43 HT_ ?_
            refine zT 30 (some 43) q3_32 HT_ HW_ hHeld ?_
            refine zT 32 (some 45) q3_33 HT_ HW_ hHeld ?_
            refine zP 33 (some 46) q3_34 HT_ ?_
            refine zP 34 (some 47) q3_35 HT_ ?_
            refine zP 35 (some 48) q3_36 HT_ ?_
            refine done_ (done_of HT_.out (by kernel_rfl)) ?_
            try go_wp2
            go_roundg k1
            case measure => have := Bn.out; omega
            case rel => exact ⟨(wrap64 (Ab + 1)), zf, H', ⟨by have := Bn.out; omega⟩, ⟨zkf Ac⟩, ⟨zw HB⟩⟩
           rw [if_neg Be] at H
           have Bg : (Op.bytesLess (((rd_T45 l0_0 (Aj)).f0).toList) (((rd_T45 l0_0 Ab).f0).toList)) = false := by simpa using Be
           clear Be
           obtain rfl := Option.some.inj H
           have Aq : 0 ≤ (Ab : Int) := of_decide_eq_true za
           have Ap : Ab < (l0_0.length : Int) := of_decide_eq_true za
           obtain ⟨Ak, Aw, Ag, Af, Ae⟩ := at_T45 HR0_0.out Ab Aq Ap
           cases Aw
           replace Ag := zU HB.out Ag
           replace Af := zU HB.out Af
           replace Ae := zU HB.out Ae
           replace Aq := eq_true Aq
           replace Ap := eq_true Ap
           try go_wp2_with (first | ((with_reducible refine gate_dst (N := 4) rfl ?_); (try (refine gate_guard (by rfl) ?_; dsimp only)); refine zx (N := 4) (cs := #[.string (⟨#[]⟩ : ByteArray), .string (⟨#[]⟩ : ByteArray), .int .i64 0]) (t := 45) ?_; intro Ad hg Cc hbox hb; have Aa := Aside0.mk (hbox); have Ax := zg HB hg; have Ay := zg HB hg; replace HB := zs HB hb; have Ai := zl Ac hg; have Ah := zr Ac hg; replace Ac := zb Ac hb; clear hb hbox hg; have hnb28 := Ah.out; have hnc28 := Ai.out; obtain ⟨_, _, _, _, _, _⟩ := zc3 Aa))
           obtain ⟨Bz, hq_⟩ : ∃ v_, ((Cc.setCell ⟨Ad, 0, none⟩ (.string ((rd_T45 l0_0 Ab).f0))).setCell ⟨Ad, 1, none⟩ (.string ((rd_T45 l0_0 Ab).f1))).setCell ⟨Ad, 2, none⟩ (.int .i64 ((rd_T45 l0_0 Ab).f2)) = v_ := ⟨_, rfl⟩
           replace Ac := zjq hq_ Ac
           replace Aa : Aside0 (Bz.heap[Ad]? = some (.cells #[.string ((rd_T45 l0_0 Ab).f0), .string ((rd_T45 l0_0 Ab).f1), .int .i64 ((rd_T45 l0_0 Ab).f2)] 45 (0, 0))) := ⟨hq_ ▸ (zj Aa)⟩
           replace HB := zwq hq_ HB
           (try rw [hq_])
           clear hq_
           replace Ac := zd1 Ac
           replace Aa := zd1 Aa
           replace HB := zd2 HB
           have Ba : 0 ≤ ((Aj) : Int) := of_decide_eq_true za
           have Az : (Aj) < (l0_0.length : Int) := of_decide_eq_true za
           obtain ⟨Bc, Bd, Ao, Am, Al⟩ := at_T45 HR0_0.out (Aj) Ba Az
           have Ar := Al
           have As := Am
           have Au := Ao
           obtain rfl : Ak = Bc := (by injection Bd)
           replace Ao := zU HB.out Ao
           replace Am := zU HB.out Am
           replace Al := zU HB.out Al
           replace Ba := eq_true Ba
           replace Az := eq_true Az
           refine start_ (n := 36) (S := fun w' => w'.cell? ⟨Ad, 0, none⟩ = some (.string ((rd_T45 l0_0 Ab).f0)) ∧ w'.cell? ⟨Ad, 1, none⟩ = some (.string ((rd_T45 l0_0 Ab).f1)) ∧ w'.cell? ⟨Ad, 2, none⟩ = some (.int .i64 ((rd_T45 l0_0 Ab).f2)) ∧ w'.cell? ⟨Bb, 0, none⟩ = some (.slice (some Ak) l0_0.length c0_0) ∧ w'.cell? (Ak.add (((Aj)).toNat * 3)) = some (.string ((rd_T45 l0_0 (Aj)).f0)) ∧ w'.cell? ⟨(Ak.add (((Aj)).toNat * 3)).block, (Ak.add (((Aj)).toNat * 3)).off + 1, none⟩ = some (.string ((rd_T45 l0_0 (Aj)).f1)) ∧ w'.cell? ⟨(Ak.add (((Aj)).toNat * 3)).block, (Ak.add (((Aj)).toNat * 3)).off + 2, none⟩ = some (.int .i64 ((rd_T45 l0_0 (Aj)).f2))) (ds := []) q3_0 (by kernel_rfl) rfl rfl ⟨zv Aa, zv Aa, zv Aa, zv Ac, (zU HB.out Au), (zU HB.out As), (zU HB.out Ar)⟩ (fun hHeld => ?_); refine with_tabW impl_DiskOk.tab4 impl_DiskOk.bits4 (fun HT_ HW_ => ?_)
           generalize Bz.drew = w31 at Ac Aa HB Ao Am Al hHeld ⊢
           refine zP 0 (some 13) q3_1 HT_ ?_
           refine zT 1 (some 14) q3_2 HT_ HW_ hHeld ?_
           refine zP 2 (some 15) q3_3 HT_ ?_
           refine one_ (i := 3) (N := some 16) q3_4 rfl rfl (one_of HT_.out (by kernel_rfl)) (by decide) (fun K hK => ?_)
           refine zH Try.func51 #[.int .i64 (((rd_T45 l0_0 Ab).f0).size : Int), .int .i64 1, .int .i64 8] ?_
           with_reducible refine (impl_within.calls (((rd_T45 l0_0 Ab).f0).size : Int) 1 8 true _ A7.out).mono ?_
           rintro e w' ⟨rfl, ⟨nd, rfl⟩⟩
           refine ⟨_, rfl, ?_⟩
           refine hK.out _ _ ⟨zv Aa, zv Aa, zv Aa, zv Ac, (zU HB.out Au), (zU HB.out As), (zU HB.out Ar)⟩ (fun hHeld => ?_)
           clear hK K
           refine zN ?_
           refine zP 4 (some 17) q3_5 HT_ ?_
           refine zP 5 (some 18) q3_6 HT_ ?_
           refine zP 6 (some 19) q3_7 HT_ ?_
           refine zT 7 (some 20) q3_8 HT_ HW_ hHeld ?_
           refine zP 8 (some 21) q3_9 HT_ ?_
           refine zP 9 (some 22) q3_10 HT_ ?_
           refine zP 10 (some 23) q3_11 HT_ ?_
           refine zP 11 (some 24) q3_12 HT_ ?_
           refine zP 12 (some 25) q3_13 HT_ ?_
           refine zP 14 (some 27) q3_37 HT_ ?_
           refine zT 13 (some 26) q3_15 HT_ HW_ hHeld ?_
           refine zT 15 (some 28) q3_16 HT_ HW_ hHeld ?_
           refine zP 16 (some 29) q3_17 HT_ ?_
           refine one_ (i := 17) (N := some 30) q3_18 rfl rfl (one_of HT_.out (by kernel_rfl)) (by decide) (fun K hK => ?_)
           refine zH Try.func51 #[.int .i64 ((rd_T45 l0_0 Ab).f2), .int .i64 0, .int .i64 (((rd_T45 l0_0 Ab).f1).size : Int)] ?_
           with_reducible refine (impl_within.calls ((rd_T45 l0_0 Ab).f2) 0 (((rd_T45 l0_0 Ab).f1).size : Int) true _ Bj.out).mono ?_
           rintro e w' ⟨rfl, ⟨nd, rfl⟩⟩
           refine ⟨_, rfl, ?_⟩
           refine hK.out _ _ ⟨zv Aa, zv Aa, zv Aa, zv Ac, (zU HB.out Au), (zU HB.out As), (zU HB.out Ar)⟩ (fun hHeld => ?_)
           clear hK K
           refine zN ?_
           refine zP 18 (some 31) q3_19 HT_ ?_
           refine zP 19 (some 32) q3_20 HT_ ?_
           refine zP 20 (some 33) q3_21 HT_ ?_
           refine zP 21 (some 34) q3_22 HT_ ?_
           refine zP 22 (some 35) q3_23 HT_ ?_
           refine zP 23 (some 36) q3_24 HT_ ?_
           refine zP 24 (some 37) q3_25 HT_ ?_
           refine zP 26 (some 39) q3_38 HT_ ?_
           refine zP 27 (some 40) q3_39 HT_ ?_
           refine zP 31 (some 44) q3_40 HT_ ?_
           refine zT 25 (some 38) q3_41 HT_ HW_ hHeld ?_
           refine zP 28 (some 41) q3_42 HT_ ?_
           refine zP 29 (some 42) q3_43 HT_ ?_
           refine zT 30 (some 43) q3_32 HT_ HW_ hHeld ?_
           refine zT 32 (some 45) q3_33 HT_ HW_ hHeld ?_
           refine zP 33 (some 46) q3_34 HT_ ?_
           refine zP 34 (some 47) q3_35 HT_ ?_
           refine zP 35 (some 48) q3_36 HT_ ?_
           refine done_ (done_of HT_.out (by kernel_rfl)) ?_
           try go_wp2
           go_ret
           exact ⟨by first | rfl | (simp [errW_none, errW_some] <;> rfl) | (simp only [← hji18]; first | rfl | (simp [errW_none, errW_some] <;> rfl)) | (simp [*, errW_none, errW_some] <;> rfl), zw HB⟩
          rw [if_neg Bk] at H
          exact absurd H (by simp)
         rw [if_neg Bl] at H
         exact absurd H (by simp)
        rw [if_neg Bf] at H
        have Bh : decide (0 < Ab) = false := decide_eq_false Bf
        clear Bf
        have H' := Aside0.mk H
        clear H
        have Aq : 0 ≤ (Ab : Int) := of_decide_eq_true za
        have Ap : Ab < (l0_0.length : Int) := of_decide_eq_true za
        obtain ⟨Ak, Aw, Ag, Af, Ae⟩ := at_T45 HR0_0.out Ab Aq Ap
        cases Aw
        replace Ag := zU HB.out Ag
        replace Af := zU HB.out Af
        replace Ae := zU HB.out Ae
        replace Aq := eq_true Aq
        replace Ap := eq_true Ap
        try go_wp2_with (first | ((with_reducible refine gate_dst (N := 4) rfl ?_); (try (refine gate_guard (by rfl) ?_; dsimp only)); refine zx (N := 4) (cs := #[.string (⟨#[]⟩ : ByteArray), .string (⟨#[]⟩ : ByteArray), .int .i64 0]) (t := 45) ?_; intro Ad hg Cb hbox hb; have Aa := Aside0.mk (hbox); have Ax := zg HB hg; have Ay := zg HB hg; replace HB := zs HB hb; have Ai := zl Ac hg; have Ah := zr Ac hg; replace Ac := zb Ac hb; clear hb hbox hg; have hnb33 := Ah.out; have hnc33 := Ai.out; obtain ⟨_, _, _, _, _, _⟩ := zc3 Aa))
        obtain ⟨Bx, hq_⟩ : ∃ v_, ((Cb.setCell ⟨Ad, 0, none⟩ (.string ((rd_T45 l0_0 Ab).f0))).setCell ⟨Ad, 1, none⟩ (.string ((rd_T45 l0_0 Ab).f1))).setCell ⟨Ad, 2, none⟩ (.int .i64 ((rd_T45 l0_0 Ab).f2)) = v_ := ⟨_, rfl⟩
        replace Ac := zjq hq_ Ac
        replace Aa : Aside0 (Bx.heap[Ad]? = some (.cells #[.string ((rd_T45 l0_0 Ab).f0), .string ((rd_T45 l0_0 Ab).f1), .int .i64 ((rd_T45 l0_0 Ab).f2)] 45 (0, 0))) := ⟨hq_ ▸ (zj Aa)⟩
        replace HB := zwq hq_ HB
        (try rw [hq_])
        clear hq_
        replace Ac := zd1 Ac
        replace Aa := zd1 Aa
        replace HB := zd2 HB
        refine start_ (n := 36) (S := fun w' => w'.cell? ⟨Ad, 0, none⟩ = some (.string ((rd_T45 l0_0 Ab).f0)) ∧ w'.cell? ⟨Ad, 1, none⟩ = some (.string ((rd_T45 l0_0 Ab).f1)) ∧ w'.cell? ⟨Ad, 2, none⟩ = some (.int .i64 ((rd_T45 l0_0 Ab).f2))) (ds := []) q3_0 (by kernel_rfl) rfl rfl ⟨zv Aa, zv Aa, zv Aa⟩ (fun hHeld => ?_); refine with_tabW impl_DiskOk.tab4 impl_DiskOk.bits4 (fun HT_ HW_ => ?_)
        generalize Bx.drew = w36 at Ac Aa HB hHeld ⊢
        refine zP 0 (some 13) q3_1 HT_ ?_
        refine zT 1 (some 14) q3_2 HT_ HW_ hHeld ?_
        refine zP 2 (some 15) q3_3 HT_ ?_
        refine one_ (i := 3) (N := some 16) q3_4 rfl rfl (one_of HT_.out (by kernel_rfl)) (by decide) (fun K hK => ?_)
        refine zH Try.func51 #[.int .i64 (((rd_T45 l0_0 Ab).f0).size : Int), .int .i64 1, .int .i64 8] ?_
        with_reducible refine (impl_within.calls (((rd_T45 l0_0 Ab).f0).size : Int) 1 8 true _ A7.out).mono ?_
        rintro e w' ⟨rfl, ⟨nd, rfl⟩⟩
        refine ⟨_, rfl, ?_⟩
        refine hK.out _ _ ⟨zv Aa, zv Aa, zv Aa⟩ (fun hHeld => ?_)
        clear hK K
        refine zN ?_
        refine zP 4 (some 17) q3_5 HT_ ?_
        refine zP 5 (some 18) q3_6 HT_ ?_
        refine zP 6 (some 19) q3_7 HT_ ?_
        refine zT 7 (some 20) q3_8 HT_ HW_ hHeld ?_
        refine zP 8 (some 21) q3_9 HT_ ?_
        refine zP 9 (some 22) q3_10 HT_ ?_
        refine zP 10 (some 23) q3_11 HT_ ?_
        refine zP 11 (some 24) q3_12 HT_ ?_
        refine zP 12 (some 25) q3_13 HT_ ?_
        refine zP 14 (some 27) q3_37 HT_ ?_
        refine zT 13 (some 26) q3_15 HT_ HW_ hHeld ?_
        refine zT 15 (some 28) q3_16 HT_ HW_ hHeld ?_
        refine zP 16 (some 29) q3_17 HT_ ?_
        refine one_ (i := 17) (N := some 30) q3_18 rfl rfl (one_of HT_.out (by kernel_rfl)) (by decide) (fun K hK => ?_)
        refine zH Try.func51 #[.int .i64 ((rd_T45 l0_0 Ab).f2), .int .i64 0, .int .i64 (((rd_T45 l0_0 Ab).f1).size : Int)] ?_
        with_reducible refine (impl_within.calls ((rd_T45 l0_0 Ab).f2) 0 (((rd_T45 l0_0 Ab).f1).size : Int) true _ Bj.out).mono ?_
        rintro e w' ⟨rfl, ⟨nd, rfl⟩⟩
        refine ⟨_, rfl, ?_⟩
        refine hK.out _ _ ⟨zv Aa, zv Aa, zv Aa⟩ (fun hHeld => ?_)
        clear hK K
        refine zN ?_
        refine zP 18 (some 31) q3_19 HT_ ?_
        refine zP 19 (some 32) q3_20 HT_ ?_
        refine zP 20 (some 33) q3_21 HT_ ?_
        refine zP 21 (some 34) q3_22 HT_ ?_
        refine zP 22 (some 35) q3_23 HT_ ?_
        refine zP 23 (some 36) q3_24 HT_ ?_
        refine zU_ 24 (some 37) q3_25 HT_ ?_
        refine zU_ 25 (some 38) q3_26 HT_ ?_
        refine zU_ 26 (some 39) q3_27 HT_ ?_
        refine zU_ 27 (some 40) q3_28 HT_ ?_
        refine zU_ 28 (some 41) q3_29 HT_ ?_
        refine zU_ 29 (some 42) q3_30 HT_ ?_
        refine zU_ 30 (some 43) q3_31 HT_ ?_
        refine zU_ 31 (some 44) q3_32 HT_ ?_
        refine zU_ 32 (some 45) q3_33 HT_ ?_
        refine zU_ 33 (some 46) q3_34 HT_ ?_
        refine zP 34 (some 47) q3_35 HT_ ?_
        refine zP 35 (some 48) q3_36 HT_ ?_
        refine done_ (done_of HT_.out (by kernel_rfl)) ?_
        try go_wp2
        go_roundg k1
        case measure => have := Bn.out; omega
        case rel => exact ⟨(wrap64 (Ab + 1)), zf, H', ⟨by have := Bn.out; omega⟩, ⟨zkf Ac⟩, ⟨zw HB⟩⟩
       replace Bm := Bool.eq_false_iff.mpr Bm
       subst Bm
       rw [if_neg (show ¬ (false = true) by decide)] at H
       obtain rfl := Option.some.inj H
       have Aq : 0 ≤ (Ab : Int) := of_decide_eq_true za
       have Ap : Ab < (l0_0.length : Int) := of_decide_eq_true za
       obtain ⟨Ak, Aw, Ag, Af, Ae⟩ := at_T45 HR0_0.out Ab Aq Ap
       cases Aw
       replace Ag := zU HB.out Ag
       replace Af := zU HB.out Af
       replace Ae := zU HB.out Ae
       replace Aq := eq_true Aq
       replace Ap := eq_true Ap
       try go_wp2_with (first | ((with_reducible refine gate_dst (N := 4) rfl ?_); (try (refine gate_guard (by rfl) ?_; dsimp only)); refine zx (N := 4) (cs := #[.string (⟨#[]⟩ : ByteArray), .string (⟨#[]⟩ : ByteArray), .int .i64 0]) (t := 45) ?_; intro Ad hg Ca hbox hb; have Aa := Aside0.mk (hbox); have Ax := zg HB hg; have Ay := zg HB hg; replace HB := zs HB hb; have Ai := zl Ac hg; have Ah := zr Ac hg; replace Ac := zb Ac hb; clear hb hbox hg; have hnb38 := Ah.out; have hnc38 := Ai.out; obtain ⟨_, _, _, _, _, _⟩ := zc3 Aa))
       obtain ⟨Bw, hq_⟩ : ∃ v_, ((Ca.setCell ⟨Ad, 0, none⟩ (.string ((rd_T45 l0_0 Ab).f0))).setCell ⟨Ad, 1, none⟩ (.string ((rd_T45 l0_0 Ab).f1))).setCell ⟨Ad, 2, none⟩ (.int .i64 ((rd_T45 l0_0 Ab).f2)) = v_ := ⟨_, rfl⟩
       replace Ac := zjq hq_ Ac
       replace Aa : Aside0 (Bw.heap[Ad]? = some (.cells #[.string ((rd_T45 l0_0 Ab).f0), .string ((rd_T45 l0_0 Ab).f1), .int .i64 ((rd_T45 l0_0 Ab).f2)] 45 (0, 0))) := ⟨hq_ ▸ (zj Aa)⟩
       replace HB := zwq hq_ HB
       (try rw [hq_])
       clear hq_
       replace Ac := zd1 Ac
       replace Aa := zd1 Aa
       replace HB := zd2 HB
       refine start_ (n := 36) (S := fun w' => w'.cell? ⟨Ad, 0, none⟩ = some (.string ((rd_T45 l0_0 Ab).f0)) ∧ w'.cell? ⟨Ad, 1, none⟩ = some (.string ((rd_T45 l0_0 Ab).f1)) ∧ w'.cell? ⟨Ad, 2, none⟩ = some (.int .i64 ((rd_T45 l0_0 Ab).f2))) (ds := []) q3_0 (by kernel_rfl) rfl rfl ⟨zv Aa, zv Aa, zv Aa⟩ (fun hHeld => ?_); refine with_tabW impl_DiskOk.tab4 impl_DiskOk.bits4 (fun HT_ HW_ => ?_)
       generalize Bw.drew = w41 at Ac Aa HB hHeld ⊢
       refine zP 0 (some 13) q3_1 HT_ ?_
       refine zT 1 (some 14) q3_2 HT_ HW_ hHeld ?_
       refine zP 2 (some 15) q3_3 HT_ ?_
       refine one_ (i := 3) (N := some 16) q3_4 rfl rfl (one_of HT_.out (by kernel_rfl)) (by decide) (fun K hK => ?_)
       refine zH Try.func51 #[.int .i64 (((rd_T45 l0_0 Ab).f0).size : Int), .int .i64 1, .int .i64 8] ?_
       with_reducible refine (impl_within.calls (((rd_T45 l0_0 Ab).f0).size : Int) 1 8 true _ A7.out).mono ?_
       rintro e w' ⟨rfl, ⟨nd, rfl⟩⟩
       refine ⟨_, rfl, ?_⟩
       refine hK.out _ _ ⟨zv Aa, zv Aa, zv Aa⟩ (fun hHeld => ?_)
       clear hK K
       refine zN ?_
       refine zP 4 (some 17) q3_5 HT_ ?_
       refine zP 5 (some 18) q3_6 HT_ ?_
       refine zP 6 (some 19) q3_7 HT_ ?_
       refine zT 7 (some 20) q3_8 HT_ HW_ hHeld ?_
       refine zP 8 (some 21) q3_9 HT_ ?_
       refine zP 9 (some 22) q3_10 HT_ ?_
       refine zP 10 (some 23) q3_11 HT_ ?_
       refine zP 11 (some 24) q3_12 HT_ ?_
       refine zP 12 (some 25) q3_13 HT_ ?_
       refine zP 14 (some 27) q3_37 HT_ ?_
       refine zT 13 (some 26) q3_15 HT_ HW_ hHeld ?_
       refine zT 15 (some 28) q3_16 HT_ HW_ hHeld ?_
       refine zP 16 (some 29) q3_17 HT_ ?_
       refine one_ (i := 17) (N := some 30) q3_18 rfl rfl (one_of HT_.out (by kernel_rfl)) (by decide) (fun K hK => ?_)
       refine zH Try.func51 #[.int .i64 ((rd_T45 l0_0 Ab).f2), .int .i64 0, .int .i64 (((rd_T45 l0_0 Ab).f1).size : Int)] ?_
       with_reducible refine (impl_within.calls ((rd_T45 l0_0 Ab).f2) 0 (((rd_T45 l0_0 Ab).f1).size : Int) false _ Bj.out).mono ?_
       rintro e w' ⟨rfl, ⟨nd, rfl⟩⟩
       refine ⟨_, rfl, ?_⟩
       refine hK.out _ _ ⟨zv Aa, zv Aa, zv Aa⟩ (fun hHeld => ?_)
       clear hK K
       refine zN ?_
       refine zP 18 (some 31) q3_19 HT_ ?_
       refine zP 19 (some 32) q3_20 HT_ ?_
       refine zP 20 (some 33) q3_21 HT_ ?_
       refine zU_ 21 (some 34) q3_22 HT_ ?_
       refine zU_ 22 (some 35) q3_23 HT_ ?_
       refine zU_ 23 (some 36) q3_24 HT_ ?_
       refine zU_ 24 (some 37) q3_25 HT_ ?_
       refine zU_ 25 (some 38) q3_26 HT_ ?_
       refine zU_ 26 (some 39) q3_27 HT_ ?_
       refine zU_ 27 (some 40) q3_28 HT_ ?_
       refine zU_ 28 (some 41) q3_29 HT_ ?_
       refine zU_ 29 (some 42) q3_30 HT_ ?_
       refine zU_ 30 (some 43) q3_31 HT_ ?_
       refine zU_ 31 (some 44) q3_32 HT_ ?_
       refine zU_ 32 (some 45) q3_33 HT_ ?_
       refine zU_ 33 (some 46) q3_34 HT_ ?_
       refine zU_ 34 (some 47) q3_35 HT_ ?_
       refine zP 35 (some 48) q3_36 HT_ ?_
       refine done_ (done_of HT_.out (by kernel_rfl)) ?_
       try go_wp2
       go_ret
       exact ⟨ze, zw HB⟩
      replace c8 := Bool.eq_false_iff.mpr c8
      subst c8
      rw [if_neg (show ¬ (false = true) by decide)] at H
      obtain rfl := Option.some.inj H
      have Aq : 0 ≤ (Ab : Int) := of_decide_eq_true za
      have Ap : Ab < (l0_0.length : Int) := of_decide_eq_true za
      obtain ⟨Ak, Aw, Ag, Af, Ae⟩ := at_T45 HR0_0.out Ab Aq Ap
      cases Aw
      replace Ag := zU HB.out Ag
      replace Af := zU HB.out Af
      replace Ae := zU HB.out Ae
      replace Aq := eq_true Aq
      replace Ap := eq_true Ap
      try go_wp2_with (first | ((with_reducible refine gate_dst (N := 4) rfl ?_); (try (refine gate_guard (by rfl) ?_; dsimp only)); refine zx (N := 4) (cs := #[.string (⟨#[]⟩ : ByteArray), .string (⟨#[]⟩ : ByteArray), .int .i64 0]) (t := 45) ?_; intro Ad hg B8 hbox hb; have Aa := Aside0.mk (hbox); have Ax := zg HB hg; have Ay := zg HB hg; replace HB := zs HB hb; have Ai := zl Ac hg; have Ah := zr Ac hg; replace Ac := zb Ac hb; clear hb hbox hg; have hnb43 := Ah.out; have hnc43 := Ai.out; obtain ⟨_, _, _, _, _, _⟩ := zc3 Aa))
      obtain ⟨Bv, hq_⟩ : ∃ v_, ((B8.setCell ⟨Ad, 0, none⟩ (.string ((rd_T45 l0_0 Ab).f0))).setCell ⟨Ad, 1, none⟩ (.string ((rd_T45 l0_0 Ab).f1))).setCell ⟨Ad, 2, none⟩ (.int .i64 ((rd_T45 l0_0 Ab).f2)) = v_ := ⟨_, rfl⟩
      replace Ac := zjq hq_ Ac
      replace Aa : Aside0 (Bv.heap[Ad]? = some (.cells #[.string ((rd_T45 l0_0 Ab).f0), .string ((rd_T45 l0_0 Ab).f1), .int .i64 ((rd_T45 l0_0 Ab).f2)] 45 (0, 0))) := ⟨hq_ ▸ (zj Aa)⟩
      replace HB := zwq hq_ HB
      (try rw [hq_])
      clear hq_
      replace Ac := zd1 Ac
      replace Aa := zd1 Aa
      replace HB := zd2 HB
      refine start_ (n := 36) (S := fun w' => w'.cell? ⟨Ad, 0, none⟩ = some (.string ((rd_T45 l0_0 Ab).f0)) ∧ w'.cell? ⟨Ad, 1, none⟩ = some (.string ((rd_T45 l0_0 Ab).f1)) ∧ w'.cell? ⟨Ad, 2, none⟩ = some (.int .i64 ((rd_T45 l0_0 Ab).f2))) (ds := []) q3_0 (by kernel_rfl) rfl rfl ⟨zv Aa, zv Aa, zv Aa⟩ (fun hHeld => ?_); refine with_tabW impl_DiskOk.tab4 impl_DiskOk.bits4 (fun HT_ HW_ => ?_)
      generalize Bv.drew = w46 at Ac Aa HB hHeld ⊢
      refine zP 0 (some 13) q3_1 HT_ ?_
      refine zT 1 (some 14) q3_2 HT_ HW_ hHeld ?_
      refine zP 2 (some 15) q3_3 HT_ ?_
      refine one_ (i := 3) (N := some 16) q3_4 rfl rfl (one_of HT_.out (by kernel_rfl)) (by decide) (fun K hK => ?_)
      refine zH Try.func51 #[.int .i64 (((rd_T45 l0_0 Ab).f0).size : Int), .int .i64 1, .int .i64 8] ?_
      with_reducible refine (impl_within.calls (((rd_T45 l0_0 Ab).f0).size : Int) 1 8 false _ A7.out).mono ?_
      rintro e w' ⟨rfl, ⟨nd, rfl⟩⟩
      refine ⟨_, rfl, ?_⟩
      refine hK.out _ _ ⟨zv Aa, zv Aa, zv Aa⟩ (fun hHeld => ?_)
      clear hK K
      refine zN ?_
      refine zP 4 (some 17) q3_5 HT_ ?_
      refine zP 5 (some 18) q3_6 HT_ ?_
      refine zU_ 6 (some 19) q3_7 HT_ ?_
      refine zU_ 7 (some 20) q3_8 HT_ ?_
      refine zU_ 8 (some 21) q3_9 HT_ ?_
      refine zU_ 9 (some 22) q3_10 HT_ ?_
      refine zP 10 (some 23) q3_11 HT_ ?_
      refine zP 11 (some 24) q3_12 HT_ ?_
      refine zU_ 12 (some 25) q3_13 HT_ ?_
      refine zU_ 13 (some 26) q3_14 HT_ ?_
      refine zU_ 14 (some 27) q3_15 HT_ ?_
      refine zU_ 15 (some 28) q3_16 HT_ ?_
      refine zU_ 16 (some 29) q3_17 HT_ ?_
      refine zU_ 17 (some 30) q3_18 HT_ ?_
      refine zU_ 18 (some 31) q3_19 HT_ ?_
      refine zP 19 (some 32) q3_20 HT_ ?_
      refine zP 20 (some 33) q3_21 HT_ ?_
      refine zU_ 21 (some 34) q3_22 HT_ ?_
      refine zU_ 22 (some 35) q3_23 HT_ ?_
      refine zU_ 23 (some 36) q3_24 HT_ ?_
      refine zU_ 24 (some 37) q3_25 HT_ ?_
      refine zU_ 25 (some 38) q3_26 HT_ ?_
      refine zU_ 26 (some 39) q3_27 HT_ ?_
      refine zU_ 27 (some 40) q3_28 HT_ ?_
      refine zU_ 28 (some 41) q3_29 HT_ ?_
      refine zU_ 29 (some 42) q3_30 HT_ ?_
      refine zU_ 30 (some 43) q3_31 HT_ ?_
      refine zU_ 31 (some 44) q3_32 HT_ ?_
      refine zU_ 32 (some 45) q3_33 HT_ ?_
      refine zU_ 33 (some 46) q3_34 HT_ ?_
      refine zU_ 34 (some 47) q3_35 HT_ ?_
      refine zP 35 (some 48) q3_36 HT_ ?_
      refine done_ (done_of HT_.out (by kernel_rfl)) ?_
      try go_wp2
      go_ret
      exact ⟨ze, zw HB⟩
     rw [if_neg c6] at H
     exact absurd H (by simp)
    rw [if_neg c5] at H
    exact absurd H (by simp)
   rw [if_neg c4] at H
   have Bu := decide_eq_false c4
   clear c4
   obtain rfl := Option.some.inj H
   obtain ⟨_, _⟩ := zc1 Ac
   go_wp2
   go_ret
   exact ⟨ze, zw HB⟩

end Go.Proofs.Ytdiecogmaiglaaa.PFnActs
