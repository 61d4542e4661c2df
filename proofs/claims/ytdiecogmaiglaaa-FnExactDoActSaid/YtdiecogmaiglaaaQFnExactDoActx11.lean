import Derived.Test.YtdiecogmaiglaaaQFnExactDoActx0
import Derived.Test.YtdiecogmaiglaaaQFnExactDoActx10
namespace Go.Proofs.Ytdiecogmaiglaaa.PFnExactDoAct
open Go.RowKit Go.Proofs.YtdiecogmaiglaaaW.PrintWords Go.Proofs.YtdiecogmaiglaaaW.PrintLast Go.Proofs.YtdiecogmaiglaaaW.PrintMore
attribute [local go_sem] max2_int min2_int max_two min_two max_three min_three max_four min_four   -- for this text's walks alone
set_option linter.unusedVariables false
set_option linter.unusedSimpArgs false

/-! ### impl_DiskOk: function 15 -/
def impl_DiskOk.l0 : Nat → List (S45) → Int → Int → List (S45) → Option (Bool)
 | 0, _, _, _, _ => none
 | k + 1, x6, x7, x8, x217000 => if x8 < x7 then (if 0 ≤ x8 then (if x8 < (x6.length : Int) then ((impl_within.f (((rd_T45 x6 x8).f0).size : Int) 1 8).bind fun t219 => (if t219 = true then (if (((rd_T45 x6 x8).f1).size : Int) > 20000 then (some false) else ((impl_within.f ((rd_T45 x6 x8).f2) 0 (((rd_T45 x6 x8).f1).size : Int)).bind fun t220 => (if t220 = true then (if x8 > 0 then (if 0 ≤ (wrap64 (x8 - 1)) then (if (wrap64 (x8 - 1)) < (x217000.length : Int) then (if ((Op.bytesLess (((rd_T45 x217000 (wrap64 (x8 - 1))).f0).toList) (((rd_T45 x6 x8).f0).toList)) = true) then (impl_DiskOk.l0 k x6 x7 (wrap64 (x8 + 1)) x217000) else (some false)) else (none)) else (none)) else (impl_DiskOk.l0 k x6 x7 (wrap64 (x8 + 1)) x217000)) else (some false)))) else (some false))) else (none)) else (none)) else (some (decide ((x217000.length : Int) ≤ 30)))
def impl_DiskOk.f (k : Nat) (l0_0 : List (S45)) : Option (Bool) := impl_DiskOk.l0 k l0_0 (l0_0.length : Int) 0 l0_0
theorem impl_DiskOk.mono_l : ∀ k, (∀ y0 y1 y2 y3, LeO (impl_DiskOk.l0 k y0 y1 y2 y3) (impl_DiskOk.l0 (k + 1) y0 y1 y2 y3))
 | 0 => fun _ _ _ _ r h => by simp [impl_DiskOk.l0] at h
 | k + 1 => by
  have ih0 := impl_DiskOk.mono_l k
  ·intro y0 y1 y2 y3
   unfold impl_DiskOk.l0
   repeat' first
   | (with_reducible exact ih0 _ _ _ _)
   | (with_reducible exact LeO.refl _)
   | (with_reducible exact LeO.none _)
   | (with_reducible refine LeO.ite ?_ ?_)
   | (with_reducible refine LeO.bind ?_ (fun _ => ?_))
   | exact ih0 _ _ _ _
   | exact LeO.none _
   | refine LeO.ite ?_ ?_
   | refine LeO.bind ?_ (fun _ => ?_)
theorem impl_DiskOk.mono : ∀ a0 k, LeO (impl_DiskOk.f k a0) (impl_DiskOk.f (k + 1) a0) := by
 intro a0 k
 have ih0 := impl_DiskOk.mono_l k
 unfold impl_DiskOk.f
 repeat' first
   | (with_reducible exact ih0 _ _ _ _)
   | (with_reducible exact LeO.refl _)
   | (with_reducible exact LeO.none _)
   | (with_reducible refine LeO.ite ?_ ?_)
   | (with_reducible refine LeO.bind ?_ (fun _ => ?_))
   | exact ih0 _ _ _ _
   | exact LeO.none _
   | refine LeO.ite ?_ ?_
   | refine LeO.bind ?_ (fun _ => ?_)
def impl_DiskOk.T4 : Bool × List (List Nat × List Nat) := (true, [([], []), ([0], [0]), ([1], [1]), ([2], [2]), ([3], [3]), ([4, 3], [4]), ([5], [5]), ([6, 5], [5, 6]), ([7, 5], [5, 7]), ([8, 5], [5, 8]), ([5, 9], [5, 9]), ([10, 5], [10]), ([11], [11]), ([12, 11], [11, 12]), ([11], [11]), ([14, 11], [11, 14]), ([15, 11], [11, 15]), ([13, 16, 11, 11], [11, 13, 16]), ([17, 11], [11, 17]), ([11, 18], [11, 18]), ([19, 17], [19]), ([20], [20]), ([21, 20], [20, 21]), ([22, 20, 20], [20, 22]), ([23], [23]), ([24, 23], [23, 24]), ([23], [23]), ([26, 23], [23, 26]), ([25, 27, 23], [23, 25, 27]), ([28, 23], [23, 28]), ([29, 23], [23, 29]), ([23], [23]), ([31, 23], [23, 31]), ([30, 32, 23], [23, 30, 32]), ([23, 33, 20], [20, 23, 33]), ([20, 34], [20, 34])])
def impl_DiskOk.B4 : List Nat := [0, 1, 3, 7, 15, 31, 63, 127, 255, 511, 1023, 2047, 4095, 8191, 4095, 20479, 53247, 131071, 262143, 524287, 1048575, 2097151, 4194303, 8388607, 16777215, 33554431, 16777215, 83886079, 268435455, 536870911, 1073741823, 16777215, 2164260863, 8589934591, 17179869183, 34359738367]
theorem impl_DiskOk.tab4 : rtab .any (opsOf Try.f15 4) = impl_DiskOk.T4 := by kernel_rfl
theorem impl_DiskOk.bits4 : waitsOk impl_DiskOk.T4.2 impl_DiskOk.B4 = true := by kernel_rfl
abbrev q11_0 : Array Bool := #[false, false, false, false, false, false, false, false, false, false, false, false, false, false, false, false, false, false, false, false, false, false, false, false, false, false, false, false, false, false, false, false, false, false, false, false]
abbrev q11_1 : Array Bool := #[true, false, false, false, false, false, false, false, false, false, false, false, false, false, false, false, false, false, false, false, false, false, false, false, false, false, false, false, false, false, false, false, false, false, false, false]
abbrev q11_2 : Array Bool := #[true, true, false, false, false, false, false, false, false, false, false, false, false, false, false, false, false, false, false, false, false, false, false, false, false, false, false, false, false, false, false, false, false, false, false, false]
abbrev q11_3 : Array Bool := #[true, true, true, false, false, false, false, false, false, false, false, false, false, false, false, false, false, false, false, false, false, false, false, false, false, false, false, false, false, false, false, false, false, false, false, false]
abbrev q11_4 : Array Bool := #[true, true, true, true, false, false, false, false, false, false, false, false, false, false, false, false, false, false, false, false, false, false, false, false, false, false, false, false, false, false, false, false, false, false, false, false]
abbrev q11_5 : Array Bool := #[true, true, true, true, true, false, false, false, false, false, false, false, false, false, false, false, false, false, false, false, false, false, false, false, false, false, false, false, false, false, false, false, false, false, false, false]
abbrev q11_6 : Array Bool := #[true, true, true, true, true, true, false, false, false, false, false, false, false, false, false, false, false, false, false, false, false, false, false, false, false, false, false, false, false, false, false, false, false, false, false, false]
abbrev q11_7 : Array Bool := #[true, true, true, true, true, true, true, false, false, false, false, false, false, false, false, false, false, false, false, false, false, false, false, false, false, false, false, false, false, false, false, false, false, false, false, false]
abbrev q11_8 : Array Bool := #[true, true, true, true, true, true, true, true, false, false, false, false, false, false, false, false, false, false, false, false, false, false, false, false, false, false, false, false, false, false, false, false, false, false, false, false]
abbrev q11_9 : Array Bool := #[true, true, true, true, true, true, true, true, true, false, false, false, false, false, false, false, false, false, false, false, false, false, false, false, false, false, false, false, false, false, false, false, false, false, false, false]
abbrev q11_10 : Array Bool := #[true, true, true, true, true, true, true, true, true, true, false, false, false, false, false, false, false, false, false, false, false, false, false, false, false, false, false, false, false, false, false, false, false, false, false, false]
abbrev q11_11 : Array Bool := #[true, true, true, true, true, true, true, true, true, true, true, false, false, false, false, false, false, false, false, false, false, false, false, false, false, false, false, false, false, false, false, false, false, false, false, false]
abbrev q11_12 : Array Bool := #[true, true, true, true, true, true, true, true, true, true, true, true, false, false, false, false, false, false, false, false, false, false, false, false, false, false, false, false, false, false, false, false, false, false, false, false]
abbrev q11_13 : Array Bool := #[true, true, true, true, true, true, true, true, true, true, true, true, true, false, false, false, false, false, false, false, false, false, false, false, false, false, false, false, false, false, false, false, false, false, false, false]
abbrev q11_14 : Array Bool := #[true, true, true, true, true, true, true, true, true, true, true, true, true, true, false, false, false, false, false, false, false, false, false, false, false, false, false, false, false, false, false, false, false, false, false, false]
abbrev q11_15 : Array Bool := #[true, true, true, true, true, true, true, true, true, true, true, true, true, true, true, false, false, false, false, false, false, false, false, false, false, false, false, false, false, false, false, false, false, false, false, false]
abbrev q11_16 : Array Bool := #[true, true, true, true, true, true, true, true, true, true, true, true, true, true, true, true, false, false, false, false, false, false, false, false, false, false, false, false, false, false, false, false, false, false, false, false]
abbrev q11_17 : Array Bool := #[true, true, true, true, true, true, true, true, true, true, true, true, true, true, true, true, true, false, false, false, false, false, false, false, false, false, false, false, false, false, false, false, false, false, false, false]
abbrev q11_18 : Array Bool := #[true, true, true, true, true, true, true, true, true, true, true, true, true, true, true, true, true, true, false, false, false, false, false, false, false, false, false, false, false, false, false, false, false, false, false, false]
abbrev q11_19 : Array Bool := #[true, true, true, true, true, true, true, true, true, true, true, true, true, true, true, true, true, true, true, false, false, false, false, false, false, false, false, false, false, false, false, false, false, false, false, false]
abbrev q11_20 : Array Bool := #[true, true, true, true, true, true, true, true, true, true, true, true, true, true, true, true, true, true, true, true, false, false, false, false, false, false, false, false, false, false, false, false, false, false, false, false]
abbrev q11_21 : Array Bool := #[true, true, true, true, true, true, true, true, true, true, true, true, true, true, true, true, true, true, true, true, true, false, false, false, false, false, false, false, false, false, false, false, false, false, false, false]
abbrev q11_22 : Array Bool := #[true, true, true, true, true, true, true, true, true, true, true, true, true, true, true, true, true, true, true, true, true, true, false, false, false, false, false, false, false, false, false, false, false, false, false, false]
abbrev q11_23 : Array Bool := #[true, true, true, true, true, true, true, true, true, true, true, true, true, true, true, true, true, true, true, true, true, true, true, false, false, false, false, false, false, false, false, false, false, false, false, false]
abbrev q11_24 : Array Bool := #[true, true, true, true, true, true, true, true, true, true, true, true, true, true, true, true, true, true, true, true, true, true, true, true, false, false, false, false, false, false, false, false, false, false, false, false]
abbrev q11_25 : Array Bool := #[true, true, true, true, true, true, true, true, true, true, true, true, true, true, true, true, true, true, true, true, true, true, true, true, true, false, false, false, false, false, false, false, false, false, false, false]
abbrev q11_26 : Array Bool := #[true, true, true, true, true, true, true, true, true, true, true, true, true, true, true, true, true, true, true, true, true, true, true, true, true, true, false, false, false, false, false, false, false, false, false, false]
abbrev q11_27 : Array Bool := #[true, true, true, true, true, true, true, true, true, true, true, true, true, true, true, true, true, true, true, true, true, true, true, true, true, true, true, false, false, false, false, false, false, false, false, false]
abbrev q11_28 : Array Bool := #[true, true, true, true, true, true, true, true, true, true, true, true, true, true, true, true, true, true, true, true, true, true, true, true, true, true, true, true, false, false, false, false, false, false, false, false]
abbrev q11_29 : Array Bool := #[true, true, true, true, true, true, true, true, true, true, true, true, true, true, true, true, true, true, true, true, true, true, true, true, true, true, true, true, true, false, false, false, false, false, false, false]
abbrev q11_30 : Array Bool := #[true, true, true, true, true, true, true, true, true, true, true, true, true, true, true, true, true, true, true, true, true, true, true, true, true, true, true, true, true, true, false, false, false, false, false, false]
abbrev q11_31 : Array Bool := #[true, true, true, true, true, true, true, true, true, true, true, true, true, true, true, true, true, true, true, true, true, true, true, true, true, true, true, true, true, true, true, false, false, false, false, false]
abbrev q11_32 : Array Bool := #[true, true, true, true, true, true, true, true, true, true, true, true, true, true, true, true, true, true, true, true, true, true, true, true, true, true, true, true, true, true, true, true, false, false, false, false]
abbrev q11_33 : Array Bool := #[true, true, true, true, true, true, true, true, true, true, true, true, true, true, true, true, true, true, true, true, true, true, true, true, true, true, true, true, true, true, true, true, true, false, false, false]
abbrev q11_34 : Array Bool := #[true, true, true, true, true, true, true, true, true, true, true, true, true, true, true, true, true, true, true, true, true, true, true, true, true, true, true, true, true, true, true, true, true, true, false, false]
abbrev q11_35 : Array Bool := #[true, true, true, true, true, true, true, true, true, true, true, true, true, true, true, true, true, true, true, true, true, true, true, true, true, true, true, true, true, true, true, true, true, true, true, false]
abbrev q11_36 : Array Bool := #[true, true, true, true, true, true, true, true, true, true, true, true, true, true, true, true, true, true, true, true, true, true, true, true, true, true, true, true, true, true, true, true, true, true, true, true]
abbrev q11_37 : Array Bool := #[true, true, true, true, true, true, true, true, true, true, true, true, true, false, true, false, false, false, false, false, false, false, false, false, false, false, false, false, false, false, false, false, false, false, false, false]
abbrev q11_38 : Array Bool := #[true, true, true, true, true, true, true, true, true, true, true, true, true, true, true, true, true, true, true, true, true, true, true, true, true, false, true, false, false, false, false, false, false, false, false, false]
abbrev q11_39 : Array Bool := #[true, true, true, true, true, true, true, true, true, true, true, true, true, true, true, true, true, true, true, true, true, true, true, true, true, false, true, true, false, false, false, false, false, false, false, false]
abbrev q11_40 : Array Bool := #[true, true, true, true, true, true, true, true, true, true, true, true, true, true, true, true, true, true, true, true, true, true, true, true, true, false, true, true, false, false, false, true, false, false, false, false]
abbrev q11_41 : Array Bool := #[true, true, true, true, true, true, true, true, true, true, true, true, true, true, true, true, true, true, true, true, true, true, true, true, true, true, true, true, false, false, false, true, false, false, false, false]
abbrev q11_42 : Array Bool := #[true, true, true, true, true, true, true, true, true, true, true, true, true, true, true, true, true, true, true, true, true, true, true, true, true, true, true, true, true, false, false, true, false, false, false, false]
abbrev q11_43 : Array Bool := #[true, true, true, true, true, true, true, true, true, true, true, true, true, true, true, true, true, true, true, true, true, true, true, true, true, true, true, true, true, true, false, true, false, false, false, false]
set_option maxHeartbeats 8000000 in
set_option maxRecDepth 100000 in
theorem impl_DiskOk.calls (k : Nat) (A0_0 : Option Addr) (c0_0 : Nat) (l0_0 : List (S45)) (r : Bool) (w : World) (hr0_0 : Kd.C k45 w A0_0 l0_0.length l0_0) (hc0_0 : l0_0.length ≤ c0_0) (h : impl_DiskOk.f k l0_0 = some r) :
  Calls Try.prog 15 #[.agg #[.slice A0_0 l0_0.length c0_0]] w fun e w' => e = .returned (.bool r) ∧ Below w.heap.size w w' := by
 have hu29 := Try.underlying29
 have hu45 := Try.underlying45
 have HR0_0 := Aside0.mk hr0_0
 have HC0_0 := Aside0.mk hc0_0
 clear hr0_0 hc0_0
 have HB := Aside0.mk (Below.refl w.heap.size w)
 have H : (impl_DiskOk.l0 k l0_0 (l0_0.length : Int) 0 l0_0) = some r := h
 clear h
 have H' := Aside0.mk H
 clear H
 go_enter Try.func15, Try.ntmps15
 go_wp2_with (first | ((with_reducible refine gate_dst (N := 1) rfl ?_); (try (refine gate_guard (by rfl) ?_; dsimp only)); refine zx (N := 1) (cs := #[.slice A0_0 l0_0.length c0_0]) (t := 29) ?_; intro gb216 hg w2 hbox hb; have BK216 := Aside0.mk (hbox); have GW216 := zg HB hg; have GE216 := zg HB hg; replace HB := zs HB hb; clear hb hbox hg; have hcz3_0 : w2.cell? ⟨gb216, 0, none⟩ = some (.slice A0_0 l0_0.length c0_0) := (blk_cell BK216.out 0).trans rfl; have hfz3_0 := blk_frozen BK216.out 0))
 go_loopg [8] k (fun kq v8 w' => ∃ (x8_1 : Int), v8 = .int .i64 x8_1 ∧ Aside0 (impl_DiskOk.l0 kq l0_0 (l0_0.length : Int) x8_1 l0_0 = some r) ∧ Aside0 (kq ≤ k) ∧ Aside0 (w'.heap[gb216]? = some (.cells #[(.slice A0_0 l0_0.length c0_0)] 29 (0, 0))) ∧ Aside0 (Below w.heap.size w w'))
 case atStart => exact ⟨(0), zf, H', ⟨Nat.le_refl _⟩, ⟨zkf BK216⟩, ⟨zw HB⟩⟩
 case round =>
  clear H'
  try clear c1
  try clear p2
  try clear hcz3_0
  try clear hfz3_0
  obtain ⟨x8_1, rfl, HA, HK1, BK216, HB⟩ := hrel
  cases gk with
  | zero => exact absurd HA.out (by simp [impl_DiskOk.l0])
  | succ k1 =>
   have H := HA.out
   clear HA
   simp only [impl_DiskOk.l0] at H
   by_cases c4 : x8_1 < (l0_0.length : Int)
   ·rw [if_pos c4] at H
    have c4b0 : decide (x8_1 < (l0_0.length : Int)) = true := decide_eq_true c4
    clear c4
    by_cases c5 : 0 ≤ x8_1
    ·rw [if_pos c5] at H
     have c5b0 : decide (0 ≤ x8_1) = true := decide_eq_true c5
     clear c5
     by_cases c6 : x8_1 < (l0_0.length : Int)
     ·rw [if_pos c6] at H
      have c6b0 : decide (x8_1 < (l0_0.length : Int)) = true := decide_eq_true c6
      clear c6
      replace H := Option.bind_eq_some_iff.mp H
      obtain ⟨t219, A70, H⟩ := H
      have A7 := Aside0.mk A70
      clear A70
      by_cases c8 : t219 = true
      ·subst c8
       rw [if_pos rfl] at H
       by_cases c9 : (((rd_T45 l0_0 x8_1).f1).size : Int) > 20000
       ·rw [if_pos c9] at H
        have c9b0 : decide (20000 < (((rd_T45 l0_0 x8_1).f1).size : Int)) = true := decide_eq_true c9
        have c9b1 : decide (20000 < ((rd_T45 l0_0 x8_1).f1).size) = true := decide_eq_true (by omega)
        clear c9
        obtain rfl := Option.some.inj H
        have p217 : 0 ≤ (x8_1 : Int) := of_decide_eq_true za
        have q217 : x8_1 < (l0_0.length : Int) := of_decide_eq_true za
        obtain ⟨ad217, e217, hx217_0, hx217_1, hx217_2⟩ := at_T45 HR0_0.out x8_1 p217 q217
        cases e217
        replace hx217_0 := zU HB.out hx217_0
        replace hx217_1 := zU HB.out hx217_1
        replace hx217_2 := zU HB.out hx217_2
        replace p217 := eq_true p217
        replace q217 := eq_true q217
        try go_wp2_with (first | ((with_reducible refine gate_dst (N := 4) rfl ?_); (try (refine gate_guard (by rfl) ?_; dsimp only)); refine zx (N := 4) (cs := #[.string (⟨#[]⟩ : ByteArray), .string (⟨#[]⟩ : ByteArray), .int .i64 0]) (t := 45) ?_; intro gb218 hg w10 hbox hb; have BK218 := Aside0.mk (hbox); have GW218 := zg HB hg; have GE218 := zg HB hg; replace HB := zs HB hb; have NB216_218 := zl BK216 hg; have NB218_216 := zr BK216 hg; replace BK216 := zb BK216 hb; clear hb hbox hg; have hnb11 := NB218_216.out; have hnc11 := NB216_218.out; have hcz12_0 : w10.cell? ⟨gb218, 0, none⟩ = some (.string (⟨#[]⟩ : ByteArray)) := (blk_cell BK218.out 0).trans rfl; have hcz12_1 : w10.cell? ⟨gb218, 1, none⟩ = some (.string (⟨#[]⟩ : ByteArray)) := (blk_cell BK218.out 1).trans rfl; have hcz12_2 : w10.cell? ⟨gb218, 2, none⟩ = some (.int .i64 0) := (blk_cell BK218.out 2).trans rfl; have hfz12_0 := blk_frozen BK218.out 0; have hfz12_1 := blk_frozen BK218.out 1; have hfz12_2 := blk_frozen BK218.out 2))
        have n0_ : Aside0 ((((w10.setCell ⟨gb218, 0, none⟩ (.string ((rd_T45 l0_0 x8_1).f0))).setCell ⟨gb218, 1, none⟩ (.string ((rd_T45 l0_0 x8_1).f1))).setCell ⟨gb218, 2, none⟩ (.int .i64 ((rd_T45 l0_0 x8_1).f2))).heap[gb216]? = some (.cells #[.slice (some ad217) l0_0.length c0_0] 29 (0, 0))) := ⟨zkf BK216⟩
        have n1_ : Aside0 ((((w10.setCell ⟨gb218, 0, none⟩ (.string ((rd_T45 l0_0 x8_1).f0))).setCell ⟨gb218, 1, none⟩ (.string ((rd_T45 l0_0 x8_1).f1))).setCell ⟨gb218, 2, none⟩ (.int .i64 ((rd_T45 l0_0 x8_1).f2))).heap[gb218]? = some (.cells #[.string ((rd_T45 l0_0 x8_1).f0), .string ((rd_T45 l0_0 x8_1).f1), .int .i64 ((rd_T45 l0_0 x8_1).f2)] 45 (0, 0))) := ⟨by (with_reducible repeat (first | refine blk_drewN ?_ _ | refine blk_drew ?_ | refine blk_alloc ?_ _)); refine blk_put (cs := #[.string ((rd_T45 l0_0 x8_1).f0), .string ((rd_T45 l0_0 x8_1).f1), .int .i64 0]) ?_ 2 _ rfl; (with_reducible repeat (first | refine blk_drewN ?_ _ | refine blk_drew ?_ | refine blk_alloc ?_ _)); refine blk_put (cs := #[.string ((rd_T45 l0_0 x8_1).f0), .string (⟨#[]⟩ : ByteArray), .int .i64 0]) ?_ 1 _ rfl; (with_reducible repeat (first | refine blk_drewN ?_ _ | refine blk_drew ?_ | refine blk_alloc ?_ _)); refine blk_put (cs := #[.string (⟨#[]⟩ : ByteArray), .string (⟨#[]⟩ : ByteArray), .int .i64 0]) ?_ 0 _ rfl; (with_reducible repeat (first | refine blk_drewN ?_ _ | refine blk_drew ?_ | refine blk_alloc ?_ _)); exact BK218.out⟩
        have n2_ : Aside0 (Below w.heap.size w (((w10.setCell ⟨gb218, 0, none⟩ (.string ((rd_T45 l0_0 x8_1).f0))).setCell ⟨gb218, 1, none⟩ (.string ((rd_T45 l0_0 x8_1).f1))).setCell ⟨gb218, 2, none⟩ (.int .i64 ((rd_T45 l0_0 x8_1).f2)))) := ⟨zw HB⟩
        (try clear BK216)
        (try clear BK218)
        (try clear HB)
        generalize (((w10.setCell ⟨gb218, 0, none⟩ (.string ((rd_T45 l0_0 x8_1).f0))).setCell ⟨gb218, 1, none⟩ (.string ((rd_T45 l0_0 x8_1).f1))).setCell ⟨gb218, 2, none⟩ (.int .i64 ((rd_T45 l0_0 x8_1).f2))) = w13 at n0_ n1_ n2_ ⊢
        have BK216 := n0_
        have BK218 := n1_
        have HB := n2_
        clear n0_ n1_ n2_
        replace BK216 := Aside0.mk (blk_drew BK216.out)
        replace BK218 := Aside0.mk (blk_drew BK218.out)
        replace HB := Aside0.mk (below_drew1 HB.out)
        refine start_ (n := 36) (S := fun w' => w'.cell? ⟨gb218, 0, none⟩ = some (.string ((rd_T45 l0_0 x8_1).f0)) ∧ w'.cell? ⟨gb218, 1, none⟩ = some (.string ((rd_T45 l0_0 x8_1).f1)) ∧ w'.cell? ⟨gb218, 2, none⟩ = some (.int .i64 ((rd_T45 l0_0 x8_1).f2))) (ds := []) q11_0 (by kernel_rfl) rfl rfl ⟨(blk_cell BK218.out 0).trans rfl, (blk_cell BK218.out 1).trans rfl, (blk_cell BK218.out 2).trans rfl⟩ (fun hHeld => ?_); refine with_tabW impl_DiskOk.tab4 impl_DiskOk.bits4 (fun HT_ HW_ => ?_)
        generalize w13.drew = w14 at BK216 BK218 HB hHeld ⊢
        refine zP 0 (some 13) q11_1 HT_ ?_
        refine zT 1 (some 14) q11_2 HT_ HW_ hHeld ?_
        refine zP 2 (some 15) q11_3 HT_ ?_
        refine one_ (i := 3) (N := some 16) q11_4 rfl rfl (one_of HT_.out (by kernel_rfl)) (by decide) (fun K hK => ?_)
        refine zH Try.func51 #[.int .i64 (((rd_T45 l0_0 x8_1).f0).size : Int), .int .i64 1, .int .i64 8] ?_
        with_reducible refine (impl_within.calls (((rd_T45 l0_0 x8_1).f0).size : Int) 1 8 true _ A7.out).mono ?_
        rintro e w' ⟨rfl, ⟨nd, rfl⟩⟩
        refine ⟨_, rfl, ?_⟩
        refine hK.out _ _ ⟨(blk_cell BK218.out 0).trans rfl, (blk_cell BK218.out 1).trans rfl, (blk_cell BK218.out 2).trans rfl⟩ (fun hHeld => ?_)
        clear hK K
        refine zN ?_
        refine zP 4 (some 17) q11_5 HT_ ?_
        refine zP 5 (some 18) q11_6 HT_ ?_
        refine zP 6 (some 19) q11_7 HT_ ?_
        refine zT 7 (some 20) q11_8 HT_ HW_ hHeld ?_
        refine zP 8 (some 21) q11_9 HT_ ?_
        refine zP 9 (some 22) q11_10 HT_ ?_
        refine zP 10 (some 23) q11_11 HT_ ?_
        refine zP 11 (some 24) q11_12 HT_ ?_
        refine zU_ 12 (some 25) q11_13 HT_ ?_
        refine zU_ 13 (some 26) q11_14 HT_ ?_
        refine zU_ 14 (some 27) q11_15 HT_ ?_
        refine zU_ 15 (some 28) q11_16 HT_ ?_
        refine zU_ 16 (some 29) q11_17 HT_ ?_
        refine zU_ 17 (some 30) q11_18 HT_ ?_
        refine zU_ 18 (some 31) q11_19 HT_ ?_
        refine zP 19 (some 32) q11_20 HT_ ?_
        refine zP 20 (some 33) q11_21 HT_ ?_
        refine zU_ 21 (some 34) q11_22 HT_ ?_
        refine zU_ 22 (some 35) q11_23 HT_ ?_
        refine zU_ 23 (some 36) q11_24 HT_ ?_
        refine zU_ 24 (some 37) q11_25 HT_ ?_
        refine zU_ 25 (some 38) q11_26 HT_ ?_
        refine zU_ 26 (some 39) q11_27 HT_ ?_
        refine zU_ 27 (some 40) q11_28 HT_ ?_
        refine zU_ 28 (some 41) q11_29 HT_ ?_
        refine zU_ 29 (some 42) q11_30 HT_ ?_
        refine zU_ 30 (some 43) q11_31 HT_ ?_
        refine zU_ 31 (some 44) q11_32 HT_ ?_
        refine zU_ 32 (some 45) q11_33 HT_ ?_
        refine zU_ 33 (some 46) q11_34 HT_ ?_
        refine zU_ 34 (some 47) q11_35 HT_ ?_
        refine zP 35 (some 48) q11_36 HT_ ?_
        refine done_ (done_of HT_.out (by kernel_rfl)) ?_
        try go_wp2
        go_ret
        exact ⟨ze, zw HB⟩
       ·rw [if_neg c9] at H
        have c9b0 : decide (20000 < (((rd_T45 l0_0 x8_1).f1).size : Int)) = false := decide_eq_false c9
        have c9b1 : decide (20000 < ((rd_T45 l0_0 x8_1).f1).size) = false := decide_eq_false (by omega)
        clear c9
        replace H := Option.bind_eq_some_iff.mp H
        obtain ⟨t220, A150, H⟩ := H
        have A15 := Aside0.mk A150
        clear A150
        by_cases c16 : t220 = true
        ·subst c16
         rw [if_pos rfl] at H
         by_cases c17 : x8_1 > 0
         ·rw [if_pos c17] at H
          have c17b0 : decide (0 < x8_1) = true := decide_eq_true c17
          clear c17
          obtain ⟨ji18, hji18⟩ : ∃ j_ : Int, (wrap64 (x8_1 - 1)) = j_ := ⟨_, rfl⟩
          replace H : (if 0 ≤ (ji18) then (if (ji18) < (l0_0.length : Int) then (if ((Op.bytesLess (((rd_T45 l0_0 (ji18)).f0).toList) (((rd_T45 l0_0 x8_1).f0).toList)) = true) then (impl_DiskOk.l0 k1 l0_0 (l0_0.length : Int) (wrap64 (x8_1 + 1)) l0_0) else (some false)) else (none)) else (none)) = some r := by first | (rw [hji18] at H; exact H) | (simp only [hji18] at H ⊢; exact H)
          (try rw [hji18] at A7)
          (try rw [hji18] at A15)
          have hji18w : (IntKind.i64.wrap (x8_1 - 1)) = ji18 := (i64_w _).trans hji18
          by_cases c19 : 0 ≤ (ji18)
          ·rw [if_pos c19] at H
           have c19b0 : decide (0 ≤ (ji18)) = true := decide_eq_true c19
           clear c19
           by_cases c20 : (ji18) < (l0_0.length : Int)
           ·rw [if_pos c20] at H
            have c20b0 : decide ((ji18) < (l0_0.length : Int)) = true := decide_eq_true c20
            clear c20
            by_cases c21 : ((Op.bytesLess (((rd_T45 l0_0 (ji18)).f0).toList) (((rd_T45 l0_0 x8_1).f0).toList)) = true)
            ·rw [if_pos c21] at H
             have c21b0 : (Op.bytesLess (((rd_T45 l0_0 (ji18)).f0).toList) (((rd_T45 l0_0 x8_1).f0).toList)) = true := c21
             clear c21
             have H' := Aside0.mk H
             clear H
             have p217 : 0 ≤ (x8_1 : Int) := of_decide_eq_true za
             have q217 : x8_1 < (l0_0.length : Int) := of_decide_eq_true za
             obtain ⟨ad217, e217, hx217_0, hx217_1, hx217_2⟩ := at_T45 HR0_0.out x8_1 p217 q217
             cases e217
             replace hx217_0 := zU HB.out hx217_0
             replace hx217_1 := zU HB.out hx217_1
             replace hx217_2 := zU HB.out hx217_2
             replace p217 := eq_true p217
             replace q217 := eq_true q217
             try go_wp2_with (first | ((with_reducible refine gate_dst (N := 4) rfl ?_); (try (refine gate_guard (by rfl) ?_; dsimp only)); refine zx (N := 4) (cs := #[.string (⟨#[]⟩ : ByteArray), .string (⟨#[]⟩ : ByteArray), .int .i64 0]) (t := 45) ?_; intro gb218 hg w22 hbox hb; have BK218 := Aside0.mk (hbox); have GW218 := zg HB hg; have GE218 := zg HB hg; replace HB := zs HB hb; have NB216_218 := zl BK216 hg; have NB218_216 := zr BK216 hg; replace BK216 := zb BK216 hb; clear hb hbox hg; have hnb23 := NB218_216.out; have hnc23 := NB216_218.out; have hcz24_0 : w22.cell? ⟨gb218, 0, none⟩ = some (.string (⟨#[]⟩ : ByteArray)) := (blk_cell BK218.out 0).trans rfl; have hcz24_1 : w22.cell? ⟨gb218, 1, none⟩ = some (.string (⟨#[]⟩ : ByteArray)) := (blk_cell BK218.out 1).trans rfl; have hcz24_2 : w22.cell? ⟨gb218, 2, none⟩ = some (.int .i64 0) := (blk_cell BK218.out 2).trans rfl; have hfz24_0 := blk_frozen BK218.out 0; have hfz24_1 := blk_frozen BK218.out 1; have hfz24_2 := blk_frozen BK218.out 2))
             have n0_ : Aside0 ((((w22.setCell ⟨gb218, 0, none⟩ (.string ((rd_T45 l0_0 x8_1).f0))).setCell ⟨gb218, 1, none⟩ (.string ((rd_T45 l0_0 x8_1).f1))).setCell ⟨gb218, 2, none⟩ (.int .i64 ((rd_T45 l0_0 x8_1).f2))).heap[gb216]? = some (.cells #[.slice (some ad217) l0_0.length c0_0] 29 (0, 0))) := ⟨zkf BK216⟩
             have n1_ : Aside0 ((((w22.setCell ⟨gb218, 0, none⟩ (.string ((rd_T45 l0_0 x8_1).f0))).setCell ⟨gb218, 1, none⟩ (.string ((rd_T45 l0_0 x8_1).f1))).setCell ⟨gb218, 2, none⟩ (.int .i64 ((rd_T45 l0_0 x8_1).f2))).heap[gb218]? = some (.cells #[.string ((rd_T45 l0_0 x8_1).f0), .string ((rd_T45 l0_0 x8_1).f1), .int .i64 ((rd_T45 l0_0 x8_1).f2)] 45 (0, 0))) := ⟨by (with_reducible repeat (first | refine blk_drewN ?_ _ | refine blk_drew ?_ | refine blk_alloc ?_ _)); refine blk_put (cs := #[.string ((rd_T45 l0_0 x8_1).f0), .string ((rd_T45 l0_0 x8_1).f1), .int .i64 0]) ?_ 2 _ rfl; (with_reducible repeat (first | refine blk_drewN ?_ _ | refine blk_drew ?_ | refine blk_alloc ?_ _)); refine blk_put (cs := #[.string ((rd_T45 l0_0 x8_1).f0), .string (⟨#[]⟩ : ByteArray), .int .i64 0]) ?_ 1 _ rfl; (with_reducible repeat (first | refine blk_drewN ?_ _ | refine blk_drew ?_ | refine blk_alloc ?_ _)); refine blk_put (cs := #[.string (⟨#[]⟩ : ByteArray), .string (⟨#[]⟩ : ByteArray), .int .i64 0]) ?_ 0 _ rfl; (with_reducible repeat (first | refine blk_drewN ?_ _ | refine blk_drew ?_ | refine blk_alloc ?_ _)); exact BK218.out⟩
             have n2_ : Aside0 (Below w.heap.size w (((w22.setCell ⟨gb218, 0, none⟩ (.string ((rd_T45 l0_0 x8_1).f0))).setCell ⟨gb218, 1, none⟩ (.string ((rd_T45 l0_0 x8_1).f1))).setCell ⟨gb218, 2, none⟩ (.int .i64 ((rd_T45 l0_0 x8_1).f2)))) := ⟨zw HB⟩
             (try clear BK216)
             (try clear BK218)
             (try clear HB)
             generalize (((w22.setCell ⟨gb218, 0, none⟩ (.string ((rd_T45 l0_0 x8_1).f0))).setCell ⟨gb218, 1, none⟩ (.string ((rd_T45 l0_0 x8_1).f1))).setCell ⟨gb218, 2, none⟩ (.int .i64 ((rd_T45 l0_0 x8_1).f2))) = w25 at n0_ n1_ n2_ ⊢
             have BK216 := n0_
             have BK218 := n1_
             have HB := n2_
             clear n0_ n1_ n2_
             replace BK216 := Aside0.mk (blk_drew BK216.out)
             replace BK218 := Aside0.mk (blk_drew BK218.out)
             replace HB := Aside0.mk (below_drew1 HB.out)
             have p221 : 0 ≤ ((ji18) : Int) := of_decide_eq_true za
             have q221 : (ji18) < (l0_0.length : Int) := of_decide_eq_true za
             obtain ⟨ad221, e221, hx221_0, hx221_1, hx221_2⟩ := at_T45 HR0_0.out (ji18) p221 q221
             have hw221_2 := hx221_2
             have hw221_1 := hx221_1
             have hw221_0 := hx221_0
             obtain rfl : ad217 = ad221 := (by injection e221)
             replace hx221_0 := zU HB.out hx221_0
             replace hx221_1 := zU HB.out hx221_1
             replace hx221_2 := zU HB.out hx221_2
             replace p221 := eq_true p221
             replace q221 := eq_true q221
             refine start_ (n := 36) (S := fun w' => w'.cell? ⟨gb218, 0, none⟩ = some (.string ((rd_T45 l0_0 x8_1).f0)) ∧ w'.cell? ⟨gb218, 1, none⟩ = some (.string ((rd_T45 l0_0 x8_1).f1)) ∧ w'.cell? ⟨gb218, 2, none⟩ = some (.int .i64 ((rd_T45 l0_0 x8_1).f2)) ∧ w'.cell? ⟨gb216, 0, none⟩ = some (.slice (some ad217) l0_0.length c0_0) ∧ w'.cell? (ad217.add (((ji18)).toNat * 3)) = some (.string ((rd_T45 l0_0 (ji18)).f0)) ∧ w'.cell? ⟨(ad217.add (((ji18)).toNat * 3)).block, (ad217.add (((ji18)).toNat * 3)).off + 1, none⟩ = some (.string ((rd_T45 l0_0 (ji18)).f1)) ∧ w'.cell? ⟨(ad217.add (((ji18)).toNat * 3)).block, (ad217.add (((ji18)).toNat * 3)).off + 2, none⟩ = some (.int .i64 ((rd_T45 l0_0 (ji18)).f2))) (ds := []) q11_0 (by kernel_rfl) rfl rfl ⟨(blk_cell BK218.out 0).trans rfl, (blk_cell BK218.out 1).trans rfl, (blk_cell BK218.out 2).trans rfl, (blk_cell BK216.out 0).trans rfl, (zU HB.out hw221_0), (zU HB.out hw221_1), (zU HB.out hw221_2)⟩ (fun hHeld => ?_); refine with_tabW impl_DiskOk.tab4 impl_DiskOk.bits4 (fun HT_ HW_ => ?_)
             generalize w25.drew = w26 at BK216 BK218 HB hx221_0 hx221_1 hx221_2 hHeld ⊢
             refine zP 0 (some 13) q11_1 HT_ ?_
             refine zT 1 (some 14) q11_2 HT_ HW_ hHeld ?_
             refine zP 2 (some 15) q11_3 HT_ ?_
             refine one_ (i := 3) (N := some 16) q11_4 rfl rfl (one_of HT_.out (by kernel_rfl)) (by decide) (fun K hK => ?_)
             refine zH Try.func51 #[.int .i64 (((rd_T45 l0_0 x8_1).f0).size : Int), .int .i64 1, .int .i64 8] ?_
             with_reducible refine (impl_within.calls (((rd_T45 l0_0 x8_1).f0).size : Int) 1 8 true _ A7.out).mono ?_
             rintro e w' ⟨rfl, ⟨nd, rfl⟩⟩
             refine ⟨_, rfl, ?_⟩
             refine hK.out _ _ ⟨(blk_cell BK218.out 0).trans rfl, (blk_cell BK218.out 1).trans rfl, (blk_cell BK218.out 2).trans rfl, (blk_cell BK216.out 0).trans rfl, (zU HB.out hw221_0), (zU HB.out hw221_1), (zU HB.out hw221_2)⟩ (fun hHeld => ?_)
             clear hK K
             refine zN ?_
             refine zP 4 (some 17) q11_5 HT_ ?_
             refine zP 5 (some 18) q11_6 HT_ ?_
             refine zP 6 (some 19) q11_7 HT_ ?_
             refine zT 7 (some 20) q11_8 HT_ HW_ hHeld ?_
             refine zP 8 (some 21) q11_9 HT_ ?_
             refine zP 9 (some 22) q11_10 HT_ ?_
             refine zP 10 (some 23) q11_11 HT_ ?_
             refine zP 11 (some 24) q11_12 HT_ ?_
             refine zP 12 (some 25) q11_13 HT_ ?_
             refine zP 14 (some 27) q11_37 HT_ ?_
             refine zT 13 (some 26) q11_15 HT_ HW_ hHeld ?_
             refine zT 15 (some 28) q11_16 HT_ HW_ hHeld ?_
             refine zP 16 (some 29) q11_17 HT_ ?_
             refine one_ (i := 17) (N := some 30) q11_18 rfl rfl (one_of HT_.out (by kernel_rfl)) (by decide) (fun K hK => ?_)
             refine zH Try.func51 #[.int .i64 ((rd_T45 l0_0 x8_1).f2), .int .i64 0, .int .i64 (((rd_T45 l0_0 x8_1).f1).size : Int)] ?_
             with_reducible refine (impl_within.calls ((rd_T45 l0_0 x8_1).f2) 0 (((rd_T45 l0_0 x8_1).f1).size : Int) true _ A15.out).mono ?_
             rintro e w' ⟨rfl, ⟨nd, rfl⟩⟩
             refine ⟨_, rfl, ?_⟩
             refine hK.out _ _ ⟨(blk_cell BK218.out 0).trans rfl, (blk_cell BK218.out 1).trans rfl, (blk_cell BK218.out 2).trans rfl, (blk_cell BK216.out 0).trans rfl, (zU HB.out hw221_0), (zU HB.out hw221_1), (zU HB.out hw221_2)⟩ (fun hHeld => ?_)
             clear hK K
             refine zN ?_
             refine zP 18 (some 31) q11_19 HT_ ?_
             refine zP 19 (some 32) q11_20 HT_ ?_
             refine zP 20 (some 33) q11_21 HT_ ?_
             refine zP 21 (some 34) q11_22 HT_ ?_
             refine zP 22 (some 35) q11_23 HT_ ?_
             refine zP 23 (some 36) q11_24 HT_ ?_
             refine zP 24 (some 37) q11_25 HT_ ?_
             refine zP 26 (some 39) q11_38 HT_ ?_
             refine zP 27 (some 40) q11_39 HT_ ?_
             refine zP 31 (some 44) q11_40 HT_ ?_
             refine zT 25 (some 38) q11_41 HT_ HW_ hHeld ?_
             refine zP 28 (some 41) q11_42 HT_ ?_
             refine zP 29 (some 42) q11_43 HT_ ?_
             refine zT 30 (some 43) q11_32 HT_ HW_ hHeld ?_
             refine zT 32 (some 45) q11_33 HT_ HW_ hHeld ?_
             refine zP 33 (some 46) q11_34 HT_ ?_
             refine zP 34 (some 47) q11_35 HT_ ?_
             refine zP 35 (some 48) q11_36 HT_ ?_
             refine done_ (done_of HT_.out (by kernel_rfl)) ?_
             try go_wp2
             go_roundg k1
             case measure => have := HK1.out; omega
             case rel => exact ⟨(wrap64 (x8_1 + 1)), zf, H', ⟨by have := HK1.out; omega⟩, ⟨zkf BK216⟩, ⟨zw HB⟩⟩
            ·rw [if_neg c21] at H
             have c21b0 : (Op.bytesLess (((rd_T45 l0_0 (ji18)).f0).toList) (((rd_T45 l0_0 x8_1).f0).toList)) = false := by simpa using c21
             clear c21
             obtain rfl := Option.some.inj H
             have p217 : 0 ≤ (x8_1 : Int) := of_decide_eq_true za
             have q217 : x8_1 < (l0_0.length : Int) := of_decide_eq_true za
             obtain ⟨ad217, e217, hx217_0, hx217_1, hx217_2⟩ := at_T45 HR0_0.out x8_1 p217 q217
             cases e217
             replace hx217_0 := zU HB.out hx217_0
             replace hx217_1 := zU HB.out hx217_1
             replace hx217_2 := zU HB.out hx217_2
             replace p217 := eq_true p217
             replace q217 := eq_true q217
             try go_wp2_with (first | ((with_reducible refine gate_dst (N := 4) rfl ?_); (try (refine gate_guard (by rfl) ?_; dsimp only)); refine zx (N := 4) (cs := #[.string (⟨#[]⟩ : ByteArray), .string (⟨#[]⟩ : ByteArray), .int .i64 0]) (t := 45) ?_; intro gb218 hg w27 hbox hb; have BK218 := Aside0.mk (hbox); have GW218 := zg HB hg; have GE218 := zg HB hg; replace HB := zs HB hb; have NB216_218 := zl BK216 hg; have NB218_216 := zr BK216 hg; replace BK216 := zb BK216 hb; clear hb hbox hg; have hnb28 := NB218_216.out; have hnc28 := NB216_218.out; have hcz29_0 : w27.cell? ⟨gb218, 0, none⟩ = some (.string (⟨#[]⟩ : ByteArray)) := (blk_cell BK218.out 0).trans rfl; have hcz29_1 : w27.cell? ⟨gb218, 1, none⟩ = some (.string (⟨#[]⟩ : ByteArray)) := (blk_cell BK218.out 1).trans rfl; have hcz29_2 : w27.cell? ⟨gb218, 2, none⟩ = some (.int .i64 0) := (blk_cell BK218.out 2).trans rfl; have hfz29_0 := blk_frozen BK218.out 0; have hfz29_1 := blk_frozen BK218.out 1; have hfz29_2 := blk_frozen BK218.out 2))
             have n0_ : Aside0 ((((w27.setCell ⟨gb218, 0, none⟩ (.string ((rd_T45 l0_0 x8_1).f0))).setCell ⟨gb218, 1, none⟩ (.string ((rd_T45 l0_0 x8_1).f1))).setCell ⟨gb218, 2, none⟩ (.int .i64 ((rd_T45 l0_0 x8_1).f2))).heap[gb216]? = some (.cells #[.slice (some ad217) l0_0.length c0_0] 29 (0, 0))) := ⟨zkf BK216⟩
             have n1_ : Aside0 ((((w27.setCell ⟨gb218, 0, none⟩ (.string ((rd_T45 l0_0 x8_1).f0))).setCell ⟨gb218, 1, none⟩ (.string ((rd_T45 l0_0 x8_1).f1))).setCell ⟨gb218, 2, none⟩ (.int .i64 ((rd_T45 l0_0 x8_1).f2))).heap[gb218]? = some (.cells #[.string ((rd_T45 l0_0 x8_1).f0), .string ((rd_T45 l0_0 x8_1).f1), .int .i64 ((rd_T45 l0_0 x8_1).f2)] 45 (0, 0))) := ⟨by (with_reducible repeat (first | refine blk_drewN ?_ _ | refine blk_drew ?_ | refine blk_alloc ?_ _)); refine blk_put (cs := #[.string ((rd_T45 l0_0 x8_1).f0), .string ((rd_T45 l0_0 x8_1).f1), .int .i64 0]) ?_ 2 _ rfl; (with_reducible repeat (first | refine blk_drewN ?_ _ | refine blk_drew ?_ | refine blk_alloc ?_ _)); refine blk_put (cs := #[.string ((rd_T45 l0_0 x8_1).f0), .string (⟨#[]⟩ : ByteArray), .int .i64 0]) ?_ 1 _ rfl; (with_reducible repeat (first | refine blk_drewN ?_ _ | refine blk_drew ?_ | refine blk_alloc ?_ _)); refine blk_put (cs := #[.string (⟨#[]⟩ : ByteArray), .string (⟨#[]⟩ : ByteArray), .int .i64 0]) ?_ 0 _ rfl; (with_reducible repeat (first | refine blk_drewN ?_ _ | refine blk_drew ?_ | refine blk_alloc ?_ _)); exact BK218.out⟩
             have n2_ : Aside0 (Below w.heap.size w (((w27.setCell ⟨gb218, 0, none⟩ (.string ((rd_T45 l0_0 x8_1).f0))).setCell ⟨gb218, 1, none⟩ (.string ((rd_T45 l0_0 x8_1).f1))).setCell ⟨gb218, 2, none⟩ (.int .i64 ((rd_T45 l0_0 x8_1).f2)))) := ⟨zw HB⟩
             (try clear BK216)
             (try clear BK218)
             (try clear HB)
             generalize (((w27.setCell ⟨gb218, 0, none⟩ (.string ((rd_T45 l0_0 x8_1).f0))).setCell ⟨gb218, 1, none⟩ (.string ((rd_T45 l0_0 x8_1).f1))).setCell ⟨gb218, 2, none⟩ (.int .i64 ((rd_T45 l0_0 x8_1).f2))) = w30 at n0_ n1_ n2_ ⊢
             have BK216 := n0_
             have BK218 := n1_
             have HB := n2_
             clear n0_ n1_ n2_
             replace BK216 := Aside0.mk (blk_drew BK216.out)
             replace BK218 := Aside0.mk (blk_drew BK218.out)
             replace HB := Aside0.mk (below_drew1 HB.out)
             have p221 : 0 ≤ ((ji18) : Int) := of_decide_eq_true za
             have q221 : (ji18) < (l0_0.length : Int) := of_decide_eq_true za
             obtain ⟨ad221, e221, hx221_0, hx221_1, hx221_2⟩ := at_T45 HR0_0.out (ji18) p221 q221
             have hw221_2 := hx221_2
             have hw221_1 := hx221_1
             have hw221_0 := hx221_0
             obtain rfl : ad217 = ad221 := (by injection e221)
             replace hx221_0 := zU HB.out hx221_0
             replace hx221_1 := zU HB.out hx221_1
             replace hx221_2 := zU HB.out hx221_2
             replace p221 := eq_true p221
             replace q221 := eq_true q221
             refine start_ (n := 36) (S := fun w' => w'.cell? ⟨gb218, 0, none⟩ = some (.string ((rd_T45 l0_0 x8_1).f0)) ∧ w'.cell? ⟨gb218, 1, none⟩ = some (.string ((rd_T45 l0_0 x8_1).f1)) ∧ w'.cell? ⟨gb218, 2, none⟩ = some (.int .i64 ((rd_T45 l0_0 x8_1).f2)) ∧ w'.cell? ⟨gb216, 0, none⟩ = some (.slice (some ad217) l0_0.length c0_0) ∧ w'.cell? (ad217.add (((ji18)).toNat * 3)) = some (.string ((rd_T45 l0_0 (ji18)).f0)) ∧ w'.cell? ⟨(ad217.add (((ji18)).toNat * 3)).block, (ad217.add (((ji18)).toNat * 3)).off + 1, none⟩ = some (.string ((rd_T45 l0_0 (ji18)).f1)) ∧ w'.cell? ⟨(ad217.add (((ji18)).toNat * 3)).block, (ad217.add (((ji18)).toNat * 3)).off + 2, none⟩ = some (.int .i64 ((rd_T45 l0_0 (ji18)).f2))) (ds := []) q11_0 (by kernel_rfl) rfl rfl ⟨(blk_cell BK218.out 0).trans rfl, (blk_cell BK218.out 1).trans rfl, (blk_cell BK218.out 2).trans rfl, (blk_cell BK216.out 0).trans rfl, (zU HB.out hw221_0), (zU HB.out hw221_1), (zU HB.out hw221_2)⟩ (fun hHeld => ?_); refine with_tabW impl_DiskOk.tab4 impl_DiskOk.bits4 (fun HT_ HW_ => ?_)
             generalize w30.drew = w31 at BK216 BK218 HB hx221_0 hx221_1 hx221_2 hHeld ⊢
             refine zP 0 (some 13) q11_1 HT_ ?_
             refine zT 1 (some 14) q11_2 HT_ HW_ hHeld ?_
             refine zP 2 (some 15) q11_3 HT_ ?_
             refine one_ (i := 3) (N := some 16) q11_4 rfl rfl (one_of HT_.out (by kernel_rfl)) (by decide) (fun K hK => ?_)
             refine zH Try.func51 #[.int .i64 (((rd_T45 l0_0 x8_1).f0).size : Int), .int .i64 1, .int .i64 8] ?_
             with_reducible refine (impl_within.calls (((rd_T45 l0_0 x8_1).f0).size : Int) 1 8 true _ A7.out).mono ?_
             rintro e w' ⟨rfl, ⟨nd, rfl⟩⟩
             refine ⟨_, rfl, ?_⟩
             refine hK.out _ _ ⟨(blk_cell BK218.out 0).trans rfl, (blk_cell BK218.out 1).trans rfl, (blk_cell BK218.out 2).trans rfl, (blk_cell BK216.out 0).trans rfl, (zU HB.out hw221_0), (zU HB.out hw221_1), (zU HB.out hw221_2)⟩ (fun hHeld => ?_)
             clear hK K
             refine zN ?_
             refine zP 4 (some 17) q11_5 HT_ ?_
             refine zP 5 (some 18) q11_6 HT_ ?_
             refine zP 6 (some 19) q11_7 HT_ ?_
             refine zT 7 (some 20) q11_8 HT_ HW_ hHeld ?_
             refine zP 8 (some 21) q11_9 HT_ ?_
             refine zP 9 (some 22) q11_10 HT_ ?_
             refine zP 10 (some 23) q11_11 HT_ ?_
             refine zP 11 (some 24) q11_12 HT_ ?_
             refine zP 12 (some 25) q11_13 HT_ ?_
             refine zP 14 (some 27) q11_37 HT_ ?_
             refine zT 13 (some 26) q11_15 HT_ HW_ hHeld ?_
             refine zT 15 (some 28) q11_16 HT_ HW_ hHeld ?_
             refine zP 16 (some 29) q11_17 HT_ ?_
             refine one_ (i := 17) (N := some 30) q11_18 rfl rfl (one_of HT_.out (by kernel_rfl)) (by decide) (fun K hK => ?_)
             refine zH Try.func51 #[.int .i64 ((rd_T45 l0_0 x8_1).f2), .int .i64 0, .int .i64 (((rd_T45 l0_0 x8_1).f1).size : Int)] ?_
             with_reducible refine (impl_within.calls ((rd_T45 l0_0 x8_1).f2) 0 (((rd_T45 l0_0 x8_1).f1).size : Int) true _ A15.out).mono ?_
             rintro e w' ⟨rfl, ⟨nd, rfl⟩⟩
             refine ⟨_, rfl, ?_⟩
             refine hK.out _ _ ⟨(blk_cell BK218.out 0).trans rfl, (blk_cell BK218.out 1).trans rfl, (blk_cell BK218.out 2).trans rfl, (blk_cell BK216.out 0).trans rfl, (zU HB.out hw221_0), (zU HB.out hw221_1), (zU HB.out hw221_2)⟩ (fun hHeld => ?_)
             clear hK K
             refine zN ?_
             refine zP 18 (some 31) q11_19 HT_ ?_
             refine zP 19 (some 32) q11_20 HT_ ?_
             refine zP 20 (some 33) q11_21 HT_ ?_
             refine zP 21 (some 34) q11_22 HT_ ?_
             refine zP 22 (some 35) q11_23 HT_ ?_
             refine zP 23 (some 36) q11_24 HT_ ?_
             refine zP 24 (some 37) q11_25 HT_ ?_
             refine zP 26 (some 39) q11_38 HT_ ?_
             refine zP 27 (some 40) q11_39 HT_ ?_
             refine zP 31 (some 44) q11_40 HT_ ?_
             refine zT 25 (some 38) q11_41 HT_ HW_ hHeld ?_
             refine zP 28 (some 41) q11_42 HT_ ?_
             refine zP 29 (some 42) q11_43 HT_ ?_
             refine zT 30 (some 43) q11_32 HT_ HW_ hHeld ?_
             refine zT 32 (some 45) q11_33 HT_ HW_ hHeld ?_
             refine zP 33 (some 46) q11_34 HT_ ?_
             refine zP 34 (some 47) q11_35 HT_ ?_
             refine zP 35 (some 48) q11_36 HT_ ?_
             refine done_ (done_of HT_.out (by kernel_rfl)) ?_
             try go_wp2
             go_ret
             exact ⟨by first | rfl | (simp [errW_none, errW_some] <;> rfl) | (simp only [← hji18]; first | rfl | (simp [errW_none, errW_some] <;> rfl)) | (simp [*, errW_none, errW_some] <;> rfl), zw HB⟩
           ·rw [if_neg c20] at H
            exact absurd H (by simp)
          ·rw [if_neg c19] at H
           exact absurd H (by simp)
         ·rw [if_neg c17] at H
          have c17b0 : decide (0 < x8_1) = false := decide_eq_false c17
          clear c17
          have H' := Aside0.mk H
          clear H
          have p217 : 0 ≤ (x8_1 : Int) := of_decide_eq_true za
          have q217 : x8_1 < (l0_0.length : Int) := of_decide_eq_true za
          obtain ⟨ad217, e217, hx217_0, hx217_1, hx217_2⟩ := at_T45 HR0_0.out x8_1 p217 q217
          cases e217
          replace hx217_0 := zU HB.out hx217_0
          replace hx217_1 := zU HB.out hx217_1
          replace hx217_2 := zU HB.out hx217_2
          replace p217 := eq_true p217
          replace q217 := eq_true q217
          try go_wp2_with (first | ((with_reducible refine gate_dst (N := 4) rfl ?_); (try (refine gate_guard (by rfl) ?_; dsimp only)); refine zx (N := 4) (cs := #[.string (⟨#[]⟩ : ByteArray), .string (⟨#[]⟩ : ByteArray), .int .i64 0]) (t := 45) ?_; intro gb218 hg w32 hbox hb; have BK218 := Aside0.mk (hbox); have GW218 := zg HB hg; have GE218 := zg HB hg; replace HB := zs HB hb; have NB216_218 := zl BK216 hg; have NB218_216 := zr BK216 hg; replace BK216 := zb BK216 hb; clear hb hbox hg; have hnb33 := NB218_216.out; have hnc33 := NB216_218.out; have hcz34_0 : w32.cell? ⟨gb218, 0, none⟩ = some (.string (⟨#[]⟩ : ByteArray)) := (blk_cell BK218.out 0).trans rfl; have hcz34_1 : w32.cell? ⟨gb218, 1, none⟩ = some (.string (⟨#[]⟩ : ByteArray)) := (blk_cell BK218.out 1).trans rfl; have hcz34_2 : w32.cell? ⟨gb218, 2, none⟩ = some (.int .i64 0) := (blk_cell BK218.out 2).trans rfl; have hfz34_0 := blk_frozen BK218.out 0; have hfz34_1 := blk_frozen BK218.out 1; have hfz34_2 := blk_frozen BK218.out 2))
          have n0_ : Aside0 ((((w32.setCell ⟨gb218, 0, none⟩ (.string ((rd_T45 l0_0 x8_1).f0))).setCell ⟨gb218, 1, none⟩ (.string ((rd_T45 l0_0 x8_1).f1))).setCell ⟨gb218, 2, none⟩ (.int .i64 ((rd_T45 l0_0 x8_1).f2))).heap[gb216]? = some (.cells #[.slice (some ad217) l0_0.length c0_0] 29 (0, 0))) := ⟨zkf BK216⟩
          have n1_ : Aside0 ((((w32.setCell ⟨gb218, 0, none⟩ (.string ((rd_T45 l0_0 x8_1).f0))).setCell ⟨gb218, 1, none⟩ (.string ((rd_T45 l0_0 x8_1).f1))).setCell ⟨gb218, 2, none⟩ (.int .i64 ((rd_T45 l0_0 x8_1).f2))).heap[gb218]? = some (.cells #[.string ((rd_T45 l0_0 x8_1).f0), .string ((rd_T45 l0_0 x8_1).f1), .int .i64 ((rd_T45 l0_0 x8_1).f2)] 45 (0, 0))) := ⟨by (with_reducible repeat (first | refine blk_drewN ?_ _ | refine blk_drew ?_ | refine blk_alloc ?_ _)); refine blk_put (cs := #[.string ((rd_T45 l0_0 x8_1).f0), .string ((rd_T45 l0_0 x8_1).f1), .int .i64 0]) ?_ 2 _ rfl; (with_reducible repeat (first | refine blk_drewN ?_ _ | refine blk_drew ?_ | refine blk_alloc ?_ _)); refine blk_put (cs := #[.string ((rd_T45 l0_0 x8_1).f0), .string (⟨#[]⟩ : ByteArray), .int .i64 0]) ?_ 1 _ rfl; (with_reducible repeat (first | refine blk_drewN ?_ _ | refine blk_drew ?_ | refine blk_alloc ?_ _)); refine blk_put (cs := #[.string (⟨#[]⟩ : ByteArray), .string (⟨#[]⟩ : ByteArray), .int .i64 0]) ?_ 0 _ rfl; (with_reducible repeat (first | refine blk_drewN ?_ _ | refine blk_drew ?_ | refine blk_alloc ?_ _)); exact BK218.out⟩
          have n2_ : Aside0 (Below w.heap.size w (((w32.setCell ⟨gb218, 0, none⟩ (.string ((rd_T45 l0_0 x8_1).f0))).setCell ⟨gb218, 1, none⟩ (.string ((rd_T45 l0_0 x8_1).f1))).setCell ⟨gb218, 2, none⟩ (.int .i64 ((rd_T45 l0_0 x8_1).f2)))) := ⟨zw HB⟩
          (try clear BK216)
          (try clear BK218)
          (try clear HB)
          generalize (((w32.setCell ⟨gb218, 0, none⟩ (.string ((rd_T45 l0_0 x8_1).f0))).setCell ⟨gb218, 1, none⟩ (.string ((rd_T45 l0_0 x8_1).f1))).setCell ⟨gb218, 2, none⟩ (.int .i64 ((rd_T45 l0_0 x8_1).f2))) = w35 at n0_ n1_ n2_ ⊢
          have BK216 := n0_
          have BK218 := n1_
          have HB := n2_
          clear n0_ n1_ n2_
          replace BK216 := Aside0.mk (blk_drew BK216.out)
          replace BK218 := Aside0.mk (blk_drew BK218.out)
          replace HB := Aside0.mk (below_drew1 HB.out)
          refine start_ (n := 36) (S := fun w' => w'.cell? ⟨gb218, 0, none⟩ = some (.string ((rd_T45 l0_0 x8_1).f0)) ∧ w'.cell? ⟨gb218, 1, none⟩ = some (.string ((rd_T45 l0_0 x8_1).f1)) ∧ w'.cell? ⟨gb218, 2, none⟩ = some (.int .i64 ((rd_T45 l0_0 x8_1).f2))) (ds := []) q11_0 (by kernel_rfl) rfl rfl ⟨(blk_cell BK218.out 0).trans rfl, (blk_cell BK218.out 1).trans rfl, (blk_cell BK218.out 2).trans rfl⟩ (fun hHeld => ?_); refine with_tabW impl_DiskOk.tab4 impl_DiskOk.bits4 (fun HT_ HW_ => ?_)
          generalize w35.drew = w36 at BK216 BK218 HB hHeld ⊢
          refine zP 0 (some 13) q11_1 HT_ ?_
          refine zT 1 (some 14) q11_2 HT_ HW_ hHeld ?_
          refine zP 2 (some 15) q11_3 HT_ ?_
          refine one_ (i := 3) (N := some 16) q11_4 rfl rfl (one_of HT_.out (by kernel_rfl)) (by decide) (fun K hK => ?_)
          refine zH Try.func51 #[.int .i64 (((rd_T45 l0_0 x8_1).f0).size : Int), .int .i64 1, .int .i64 8] ?_
          with_reducible refine (impl_within.calls (((rd_T45 l0_0 x8_1).f0).size : Int) 1 8 true _ A7.out).mono ?_
          rintro e w' ⟨rfl, ⟨nd, rfl⟩⟩
          refine ⟨_, rfl, ?_⟩
          refine hK.out _ _ ⟨(blk_cell BK218.out 0).trans rfl, (blk_cell BK218.out 1).trans rfl, (blk_cell BK218.out 2).trans rfl⟩ (fun hHeld => ?_)
          clear hK K
          refine zN ?_
          refine zP 4 (some 17) q11_5 HT_ ?_
          refine zP 5 (some 18) q11_6 HT_ ?_
          refine zP 6 (some 19) q11_7 HT_ ?_
          refine zT 7 (some 20) q11_8 HT_ HW_ hHeld ?_
          refine zP 8 (some 21) q11_9 HT_ ?_
          refine zP 9 (some 22) q11_10 HT_ ?_
          refine zP 10 (some 23) q11_11 HT_ ?_
          refine zP 11 (some 24) q11_12 HT_ ?_
          refine zP 12 (some 25) q11_13 HT_ ?_
          refine zP 14 (some 27) q11_37 HT_ ?_
          refine zT 13 (some 26) q11_15 HT_ HW_ hHeld ?_
          refine zT 15 (some 28) q11_16 HT_ HW_ hHeld ?_
          refine zP 16 (some 29) q11_17 HT_ ?_
          refine one_ (i := 17) (N := some 30) q11_18 rfl rfl (one_of HT_.out (by kernel_rfl)) (by decide) (fun K hK => ?_)
          refine zH Try.func51 #[.int .i64 ((rd_T45 l0_0 x8_1).f2), .int .i64 0, .int .i64 (((rd_T45 l0_0 x8_1).f1).size : Int)] ?_
          with_reducible refine (impl_within.calls ((rd_T45 l0_0 x8_1).f2) 0 (((rd_T45 l0_0 x8_1).f1).size : Int) true _ A15.out).mono ?_
          rintro e w' ⟨rfl, ⟨nd, rfl⟩⟩
          refine ⟨_, rfl, ?_⟩
          refine hK.out _ _ ⟨(blk_cell BK218.out 0).trans rfl, (blk_cell BK218.out 1).trans rfl, (blk_cell BK218.out 2).trans rfl⟩ (fun hHeld => ?_)
          clear hK K
          refine zN ?_
          refine zP 18 (some 31) q11_19 HT_ ?_
          refine zP 19 (some 32) q11_20 HT_ ?_
          refine zP 20 (some 33) q11_21 HT_ ?_
          refine zP 21 (some 34) q11_22 HT_ ?_
          refine zP 22 (some 35) q11_23 HT_ ?_
          refine zP 23 (some 36) q11_24 HT_ ?_
          refine zU_ 24 (some 37) q11_25 HT_ ?_
          refine zU_ 25 (some 38) q11_26 HT_ ?_
          refine zU_ 26 (some 39) q11_27 HT_ ?_
          refine zU_ 27 (some 40) q11_28 HT_ ?_
          refine zU_ 28 (some 41) q11_29 HT_ ?_
          refine zU_ 29 (some 42) q11_30 HT_ ?_
          refine zU_ 30 (some 43) q11_31 HT_ ?_
          refine zU_ 31 (some 44) q11_32 HT_ ?_
          refine zU_ 32 (some 45) q11_33 HT_ ?_
          refine zU_ 33 (some 46) q11_34 HT_ ?_
          refine zP 34 (some 47) q11_35 HT_ ?_
          refine zP 35 (some 48) q11_36 HT_ ?_
          refine done_ (done_of HT_.out (by kernel_rfl)) ?_
          try go_wp2
          go_roundg k1
          case measure => have := HK1.out; omega
          case rel => exact ⟨(wrap64 (x8_1 + 1)), zf, H', ⟨by have := HK1.out; omega⟩, ⟨zkf BK216⟩, ⟨zw HB⟩⟩
        ·replace c16 := Bool.eq_false_iff.mpr c16
         subst c16
         rw [if_neg (show ¬ (false = true) by decide)] at H
         obtain rfl := Option.some.inj H
         have p217 : 0 ≤ (x8_1 : Int) := of_decide_eq_true za
         have q217 : x8_1 < (l0_0.length : Int) := of_decide_eq_true za
         obtain ⟨ad217, e217, hx217_0, hx217_1, hx217_2⟩ := at_T45 HR0_0.out x8_1 p217 q217
         cases e217
         replace hx217_0 := zU HB.out hx217_0
         replace hx217_1 := zU HB.out hx217_1
         replace hx217_2 := zU HB.out hx217_2
         replace p217 := eq_true p217
         replace q217 := eq_true q217
         try go_wp2_with (first | ((with_reducible refine gate_dst (N := 4) rfl ?_); (try (refine gate_guard (by rfl) ?_; dsimp only)); refine zx (N := 4) (cs := #[.string (⟨#[]⟩ : ByteArray), .string (⟨#[]⟩ : ByteArray), .int .i64 0]) (t := 45) ?_; intro gb218 hg w37 hbox hb; have BK218 := Aside0.mk (hbox); have GW218 := zg HB hg; have GE218 := zg HB hg; replace HB := zs HB hb; have NB216_218 := zl BK216 hg; have NB218_216 := zr BK216 hg; replace BK216 := zb BK216 hb; clear hb hbox hg; have hnb38 := NB218_216.out; have hnc38 := NB216_218.out; have hcz39_0 : w37.cell? ⟨gb218, 0, none⟩ = some (.string (⟨#[]⟩ : ByteArray)) := (blk_cell BK218.out 0).trans rfl; have hcz39_1 : w37.cell? ⟨gb218, 1, none⟩ = some (.string (⟨#[]⟩ : ByteArray)) := (blk_cell BK218.out 1).trans rfl; have hcz39_2 : w37.cell? ⟨gb218, 2, none⟩ = some (.int .i64 0) := (blk_cell BK218.out 2).trans rfl; have hfz39_0 := blk_frozen BK218.out 0; have hfz39_1 := blk_frozen BK218.out 1; have hfz39_2 := blk_frozen BK218.out 2))
         have n0_ : Aside0 ((((w37.setCell ⟨gb218, 0, none⟩ (.string ((rd_T45 l0_0 x8_1).f0))).setCell ⟨gb218, 1, none⟩ (.string ((rd_T45 l0_0 x8_1).f1))).setCell ⟨gb218, 2, none⟩ (.int .i64 ((rd_T45 l0_0 x8_1).f2))).heap[gb216]? = some (.cells #[.slice (some ad217) l0_0.length c0_0] 29 (0, 0))) := ⟨zkf BK216⟩
         have n1_ : Aside0 ((((w37.setCell ⟨gb218, 0, none⟩ (.string ((rd_T45 l0_0 x8_1).f0))).setCell ⟨gb218, 1, none⟩ (.string ((rd_T45 l0_0 x8_1).f1))).setCell ⟨gb218, 2, none⟩ (.int .i64 ((rd_T45 l0_0 x8_1).f2))).heap[gb218]? = some (.cells #[.string ((rd_T45 l0_0 x8_1).f0), .string ((rd_T45 l0_0 x8_1).f1), .int .i64 ((rd_T45 l0_0 x8_1).f2)] 45 (0, 0))) := ⟨by (with_reducible repeat (first | refine blk_drewN ?_ _ | refine blk_drew ?_ | refine blk_alloc ?_ _)); refine blk_put (cs := #[.string ((rd_T45 l0_0 x8_1).f0), .string ((rd_T45 l0_0 x8_1).f1), .int .i64 0]) ?_ 2 _ rfl; (with_reducible repeat (first | refine blk_drewN ?_ _ | refine blk_drew ?_ | refine blk_alloc ?_ _)); refine blk_put (cs := #[.string ((rd_T45 l0_0 x8_1).f0), .string (⟨#[]⟩ : ByteArray), .int .i64 0]) ?_ 1 _ rfl; (with_reducible repeat (first | refine blk_drewN ?_ _ | refine blk_drew ?_ | refine blk_alloc ?_ _)); refine blk_put (cs := #[.string (⟨#[]⟩ : ByteArray), .string (⟨#[]⟩ : ByteArray), .int .i64 0]) ?_ 0 _ rfl; (with_reducible repeat (first | refine blk_drewN ?_ _ | refine blk_drew ?_ | refine blk_alloc ?_ _)); exact BK218.out⟩
         have n2_ : Aside0 (Below w.heap.size w (((w37.setCell ⟨gb218, 0, none⟩ (.string ((rd_T45 l0_0 x8_1).f0))).setCell ⟨gb218, 1, none⟩ (.string ((rd_T45 l0_0 x8_1).f1))).setCell ⟨gb218, 2, none⟩ (.int .i64 ((rd_T45 l0_0 x8_1).f2)))) := ⟨zw HB⟩
         (try clear BK216)
         (try clear BK218)
         (try clear HB)
         generalize (((w37.setCell ⟨gb218, 0, none⟩ (.string ((rd_T45 l0_0 x8_1).f0))).setCell ⟨gb218, 1, none⟩ (.string ((rd_T45 l0_0 x8_1).f1))).setCell ⟨gb218, 2, none⟩ (.int .i64 ((rd_T45 l0_0 x8_1).f2))) = w40 at n0_ n1_ n2_ ⊢
         have BK216 := n0_
         have BK218 := n1_
         have HB := n2_
         clear n0_ n1_ n2_
         replace BK216 := Aside0.mk (blk_drew BK216.out)
         replace BK218 := Aside0.mk (blk_drew BK218.out)
         replace HB := Aside0.mk (below_drew1 HB.out)
         refine start_ (n := 36) (S := fun w' => w'.cell? ⟨gb218, 0, none⟩ = some (.string ((rd_T45 l0_0 x8_1).f0)) ∧ w'.cell? ⟨gb218, 1, none⟩ = some (.string ((rd_T45 l0_0 x8_1).f1)) ∧ w'.cell? ⟨gb218, 2, none⟩ = some (.int .i64 ((rd_T45 l0_0 x8_1).f2))) (ds := []) q11_0 (by kernel_rfl) rfl rfl ⟨(blk_cell BK218.out 0).trans rfl, (blk_cell BK218.out 1).trans rfl, (blk_cell BK218.out 2).trans rfl⟩ (fun hHeld => ?_); refine with_tabW impl_DiskOk.tab4 impl_DiskOk.bits4 (fun HT_ HW_ => ?_)
         generalize w40.drew = w41 at BK216 BK218 HB hHeld ⊢
         refine zP 0 (some 13) q11_1 HT_ ?_
         refine zT 1 (some 14) q11_2 HT_ HW_ hHeld ?_
         refine zP 2 (some 15) q11_3 HT_ ?_
         refine one_ (i := 3) (N := some 16) q11_4 rfl rfl (one_of HT_.out (by kernel_rfl)) (by decide) (fun K hK => ?_)
         refine zH Try.func51 #[.int .i64 (((rd_T45 l0_0 x8_1).f0).size : Int), .int .i64 1, .int .i64 8] ?_
         with_reducible refine (impl_within.calls (((rd_T45 l0_0 x8_1).f0).size : Int) 1 8 true _ A7.out).mono ?_
         rintro e w' ⟨rfl, ⟨nd, rfl⟩⟩
         refine ⟨_, rfl, ?_⟩
         refine hK.out _ _ ⟨(blk_cell BK218.out 0).trans rfl, (blk_cell BK218.out 1).trans rfl, (blk_cell BK218.out 2).trans rfl⟩ (fun hHeld => ?_)
         clear hK K
         refine zN ?_
         refine zP 4 (some 17) q11_5 HT_ ?_
         refine zP 5 (some 18) q11_6 HT_ ?_
         refine zP 6 (some 19) q11_7 HT_ ?_
         refine zT 7 (some 20) q11_8 HT_ HW_ hHeld ?_
         refine zP 8 (some 21) q11_9 HT_ ?_
         refine zP 9 (some 22) q11_10 HT_ ?_
         refine zP 10 (some 23) q11_11 HT_ ?_
         refine zP 11 (some 24) q11_12 HT_ ?_
         refine zP 12 (some 25) q11_13 HT_ ?_
         refine zP 14 (some 27) q11_37 HT_ ?_
         refine zT 13 (some 26) q11_15 HT_ HW_ hHeld ?_
         refine zT 15 (some 28) q11_16 HT_ HW_ hHeld ?_
         refine zP 16 (some 29) q11_17 HT_ ?_
         refine one_ (i := 17) (N := some 30) q11_18 rfl rfl (one_of HT_.out (by kernel_rfl)) (by decide) (fun K hK => ?_)
         refine zH Try.func51 #[.int .i64 ((rd_T45 l0_0 x8_1).f2), .int .i64 0, .int .i64 (((rd_T45 l0_0 x8_1).f1).size : Int)] ?_
         with_reducible refine (impl_within.calls ((rd_T45 l0_0 x8_1).f2) 0 (((rd_T45 l0_0 x8_1).f1).size : Int) false _ A15.out).mono ?_
         rintro e w' ⟨rfl, ⟨nd, rfl⟩⟩
         refine ⟨_, rfl, ?_⟩
         refine hK.out _ _ ⟨(blk_cell BK218.out 0).trans rfl, (blk_cell BK218.out 1).trans rfl, (blk_cell BK218.out 2).trans rfl⟩ (fun hHeld => ?_)
         clear hK K
         refine zN ?_
         refine zP 18 (some 31) q11_19 HT_ ?_
         refine zP 19 (some 32) q11_20 HT_ ?_
         refine zP 20 (some 33) q11_21 HT_ ?_
         refine zU_ 21 (some 34) q11_22 HT_ ?_
         refine zU_ 22 (some 35) q11_23 HT_ ?_
         refine zU_ 23 (some 36) q11_24 HT_ ?_
         refine zU_ 24 (some 37) q11_25 HT_ ?_
         refine zU_ 25 (some 38) q11_26 HT_ ?_
         refine zU_ 26 (some 39) q11_27 HT_ ?_
         refine zU_ 27 (some 40) q11_28 HT_ ?_
         refine zU_ 28 (some 41) q11_29 HT_ ?_
         refine zU_ 29 (some 42) q11_30 HT_ ?_
         refine zU_ 30 (some 43) q11_31 HT_ ?_
         refine zU_ 31 (some 44) q11_32 HT_ ?_
         refine zU_ 32 (some 45) q11_33 HT_ ?_
         refine zU_ 33 (some 46) q11_34 HT_ ?_
         refine zU_ 34 (some 47) q11_35 HT_ ?_
         refine zP 35 (some 48) q11_36 HT_ ?_
         refine done_ (done_of HT_.out (by kernel_rfl)) ?_
         try go_wp2
         go_ret
         exact ⟨ze, zw HB⟩
      ·replace c8 := Bool.eq_false_iff.mpr c8
       subst c8
       rw [if_neg (show ¬ (false = true) by decide)] at H
       obtain rfl := Option.some.inj H
       have p217 : 0 ≤ (x8_1 : Int) := of_decide_eq_true za
       have q217 : x8_1 < (l0_0.length : Int) := of_decide_eq_true za
       obtain ⟨ad217, e217, hx217_0, hx217_1, hx217_2⟩ := at_T45 HR0_0.out x8_1 p217 q217
       cases e217
       replace hx217_0 := zU HB.out hx217_0
       replace hx217_1 := zU HB.out hx217_1
       replace hx217_2 := zU HB.out hx217_2
       replace p217 := eq_true p217
       replace q217 := eq_true q217
       try go_wp2_with (first | ((with_reducible refine gate_dst (N := 4) rfl ?_); (try (refine gate_guard (by rfl) ?_; dsimp only)); refine zx (N := 4) (cs := #[.string (⟨#[]⟩ : ByteArray), .string (⟨#[]⟩ : ByteArray), .int .i64 0]) (t := 45) ?_; intro gb218 hg w42 hbox hb; have BK218 := Aside0.mk (hbox); have GW218 := zg HB hg; have GE218 := zg HB hg; replace HB := zs HB hb; have NB216_218 := zl BK216 hg; have NB218_216 := zr BK216 hg; replace BK216 := zb BK216 hb; clear hb hbox hg; have hnb43 := NB218_216.out; have hnc43 := NB216_218.out; have hcz44_0 : w42.cell? ⟨gb218, 0, none⟩ = some (.string (⟨#[]⟩ : ByteArray)) := (blk_cell BK218.out 0).trans rfl; have hcz44_1 : w42.cell? ⟨gb218, 1, none⟩ = some (.string (⟨#[]⟩ : ByteArray)) := (blk_cell BK218.out 1).trans rfl; have hcz44_2 : w42.cell? ⟨gb218, 2, none⟩ = some (.int .i64 0) := (blk_cell BK218.out 2).trans rfl; have hfz44_0 := blk_frozen BK218.out 0; have hfz44_1 := blk_frozen BK218.out 1; have hfz44_2 := blk_frozen BK218.out 2))
       have n0_ : Aside0 ((((w42.setCell ⟨gb218, 0, none⟩ (.string ((rd_T45 l0_0 x8_1).f0))).setCell ⟨gb218, 1, none⟩ (.string ((rd_T45 l0_0 x8_1).f1))).setCell ⟨gb218, 2, none⟩ (.int .i64 ((rd_T45 l0_0 x8_1).f2))).heap[gb216]? = some (.cells #[.slice (some ad217) l0_0.length c0_0] 29 (0, 0))) := ⟨zkf BK216⟩
       have n1_ : Aside0 ((((w42.setCell ⟨gb218, 0, none⟩ (.string ((rd_T45 l0_0 x8_1).f0))).setCell ⟨gb218, 1, none⟩ (.string ((rd_T45 l0_0 x8_1).f1))).setCell ⟨gb218, 2, none⟩ (.int .i64 ((rd_T45 l0_0 x8_1).f2))).heap[gb218]? = some (.cells #[.string ((rd_T45 l0_0 x8_1).f0), .string ((rd_T45 l0_0 x8_1).f1), .int .i64 ((rd_T45 l0_0 x8_1).f2)] 45 (0, 0))) := ⟨by (with_reducible repeat (first | refine blk_drewN ?_ _ | refine blk_drew ?_ | refine blk_alloc ?_ _)); refine blk_put (cs := #[.string ((rd_T45 l0_0 x8_1).f0), .string ((rd_T45 l0_0 x8_1).f1), .int .i64 0]) ?_ 2 _ rfl; (with_reducible repeat (first | refine blk_drewN ?_ _ | refine blk_drew ?_ | refine blk_alloc ?_ _)); refine blk_put (cs := #[.string ((rd_T45 l0_0 x8_1).f0), .string (⟨#[]⟩ : ByteArray), .int .i64 0]) ?_ 1 _ rfl; (with_reducible repeat (first | refine blk_drewN ?_ _ | refine blk_drew ?_ | refine blk_alloc ?_ _)); refine blk_put (cs := #[.string (⟨#[]⟩ : ByteArray), .string (⟨#[]⟩ : ByteArray), .int .i64 0]) ?_ 0 _ rfl; (with_reducible repeat (first | refine blk_drewN ?_ _ | refine blk_drew ?_ | refine blk_alloc ?_ _)); exact BK218.out⟩
       have n2_ : Aside0 (Below w.heap.size w (((w42.setCell ⟨gb218, 0, none⟩ (.string ((rd_T45 l0_0 x8_1).f0))).setCell ⟨gb218, 1, none⟩ (.string ((rd_T45 l0_0 x8_1).f1))).setCell ⟨gb218, 2, none⟩ (.int .i64 ((rd_T45 l0_0 x8_1).f2)))) := ⟨zw HB⟩
       (try clear BK216)
       (try clear BK218)
       (try clear HB)
       generalize (((w42.setCell ⟨gb218, 0, none⟩ (.string ((rd_T45 l0_0 x8_1).f0))).setCell ⟨gb218, 1, none⟩ (.string ((rd_T45 l0_0 x8_1).f1))).setCell ⟨gb218, 2, none⟩ (.int .i64 ((rd_T45 l0_0 x8_1).f2))) = w45 at n0_ n1_ n2_ ⊢
       have BK216 := n0_
       have BK218 := n1_
       have HB := n2_
       clear n0_ n1_ n2_
       replace BK216 := Aside0.mk (blk_drew BK216.out)
       replace BK218 := Aside0.mk (blk_drew BK218.out)
       replace HB := Aside0.mk (below_drew1 HB.out)
       refine start_ (n := 36) (S := fun w' => w'.cell? ⟨gb218, 0, none⟩ = some (.string ((rd_T45 l0_0 x8_1).f0)) ∧ w'.cell? ⟨gb218, 1, none⟩ = some (.string ((rd_T45 l0_0 x8_1).f1)) ∧ w'.cell? ⟨gb218, 2, none⟩ = some (.int .i64 ((rd_T45 l0_0 x8_1).f2))) (ds := []) q11_0 (by kernel_rfl) rfl rfl ⟨(blk_cell BK218.out 0).trans rfl, (blk_cell BK218.out 1).trans rfl, (blk_cell BK218.out 2).trans rfl⟩ (fun hHeld => ?_); refine with_tabW impl_DiskOk.tab4 impl_DiskOk.bits4 (fun HT_ HW_ => ?_)
       generalize w45.drew = w46 at BK216 BK218 HB hHeld ⊢
       refine zP 0 (some 13) q11_1 HT_ ?_
       refine zT 1 (some 14) q11_2 HT_ HW_ hHeld ?_
       refine zP 2 (some 15) q11_3 HT_ ?_
       refine one_ (i := 3) (N := some 16) q11_4 rfl rfl (one_of HT_.out (by kernel_rfl)) (by decide) (fun K hK => ?_)
       refine zH Try.func51 #[.int .i64 (((rd_T45 l0_0 x8_1).f0).size : Int), .int .i64 1, .int .i64 8] ?_
       with_reducible refine (impl_within.calls (((rd_T45 l0_0 x8_1).f0).size : Int) 1 8 false _ A7.out).mono ?_
       rintro e w' ⟨rfl, ⟨nd, rfl⟩⟩
       refine ⟨_, rfl, ?_⟩
       refine hK.out _ _ ⟨(blk_cell BK218.out 0).trans rfl, (blk_cell BK218.out 1).trans rfl, (blk_cell BK218.out 2).trans rfl⟩ (fun hHeld => ?_)
       clear hK K
       refine zN ?_
       refine zP 4 (some 17) q11_5 HT_ ?_
       refine zP 5 (some 18) q11_6 HT_ ?_
       refine zU_ 6 (some 19) q11_7 HT_ ?_
       refine zU_ 7 (some 20) q11_8 HT_ ?_
       refine zU_ 8 (some 21) q11_9 HT_ ?_
       refine zU_ 9 (some 22) q11_10 HT_ ?_
       refine zP 10 (some 23) q11_11 HT_ ?_
       refine zP 11 (some 24) q11_12 HT_ ?_
       refine zU_ 12 (some 25) q11_13 HT_ ?_
       refine zU_ 13 (some 26) q11_14 HT_ ?_
       refine zU_ 14 (some 27) q11_15 HT_ ?_
       refine zU_ 15 (some 28) q11_16 HT_ ?_
       refine zU_ 16 (some 29) q11_17 HT_ ?_
       refine zU_ 17 (some 30) q11_18 HT_ ?_
       refine zU_ 18 (some 31) q11_19 HT_ ?_
       refine zP 19 (some 32) q11_20 HT_ ?_
       refine zP 20 (some 33) q11_21 HT_ ?_
       refine zU_ 21 (some 34) q11_22 HT_ ?_
       refine zU_ 22 (some 35) q11_23 HT_ ?_
       refine zU_ 23 (some 36) q11_24 HT_ ?_
       refine zU_ 24 (some 37) q11_25 HT_ ?_
       refine zU_ 25 (some 38) q11_26 HT_ ?_
       refine zU_ 26 (some 39) q11_27 HT_ ?_
       refine zU_ 27 (some 40) q11_28 HT_ ?_
       refine zU_ 28 (some 41) q11_29 HT_ ?_
       refine zU_ 29 (some 42) q11_30 HT_ ?_
       refine zU_ 30 (some 43) q11_31 HT_ ?_
       refine zU_ 31 (some 44) q11_32 HT_ ?_
       refine zU_ 32 (some 45) q11_33 HT_ ?_
       refine zU_ 33 (some 46) q11_34 HT_ ?_
       refine zU_ 34 (some 47) q11_35 HT_ ?_
       refine zP 35 (some 48) q11_36 HT_ ?_
       refine done_ (done_of HT_.out (by kernel_rfl)) ?_
       try go_wp2
       go_ret
       exact ⟨ze, zw HB⟩
     ·rw [if_neg c6] at H
      exact absurd H (by simp)
    ·rw [if_neg c5] at H
     exact absurd H (by simp)
   ·rw [if_neg c4] at H
    have c4b0 : decide (x8_1 < (l0_0.length : Int)) = false := decide_eq_false c4
    clear c4
    obtain rfl := Option.some.inj H
    have hcz47_0 : wr.cell? ⟨gb216, 0, none⟩ = some (.slice A0_0 l0_0.length c0_0) := (blk_cell BK216.out 0).trans rfl
    have hfz47_0 := blk_frozen BK216.out 0
    go_wp2
    go_ret
    exact ⟨ze, zw HB⟩

end Go.Proofs.Ytdiecogmaiglaaa.PFnExactDoAct
