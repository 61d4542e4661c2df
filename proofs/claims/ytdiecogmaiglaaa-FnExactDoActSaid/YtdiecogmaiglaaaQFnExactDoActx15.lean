import Derived.Test.YtdiecogmaiglaaaQFnExactDoActx0
import Derived.Test.YtdiecogmaiglaaaQFnExactDoActx1
import Derived.Test.YtdiecogmaiglaaaQFnExactDoActx2
import Derived.Test.YtdiecogmaiglaaaQFnExactDoActx3
import Derived.Test.YtdiecogmaiglaaaQFnExactDoActx4
import Derived.Test.YtdiecogmaiglaaaQFnExactDoActx9
import Derived.Test.YtdiecogmaiglaaaQFnExactDoActx10
import Derived.Test.YtdiecogmaiglaaaQFnExactDoActx14
namespace Go.Proofs.Ytdiecogmaiglaaa.PFnExactDoAct
open Go.RowKit Go.Proofs.YtdiecogmaiglaaaW.PrintWords Go.Proofs.YtdiecogmaiglaaaW.PrintLast Go.Proofs.YtdiecogmaiglaaaW.PrintMore
attribute [local go_sem] max2_int min2_int max_two min_two max_three min_three max_four min_four   -- for this text's walks alone
set_option linter.unusedVariables false
set_option linter.unusedSimpArgs false
theorem zM {P : Program} {ops : Array Oper} {Q : Exit → Act → World → Prop} {md : Region.Mode} {S : World → Prop} {ds : List Nat} {fuel : Nat} {l : Array Bool} {a a' : Act} {w : World} (h : wpAnyLast P md ops Q S ds fuel l a' w) (ha : a = a' := by show Act.put _ (some _) _ = _; simp only [Act.put, zA, zB, zC, i64_w, i32_w]; rfl) : wpAnyLast P md ops Q S ds fuel l a w := norm_ ha h

/-! ### laws_FnExactDoAct: function 8 -/
mutual
def laws_FnExactDoAct.j0 : Nat → Bool → Bool → Bool → List (S94) → Int → ByteArray → ByteArray → ByteArray → List (S45) → List (S45) → List (S45) → Option (Bool)
 | 0, _, _, _, _, _, _, _, _, _, _, _ => none
 | k + 1, x7, x10, x51, x268000, x269000, x269001, x269002, x269003, x283000, x287000, x296000 => if x51 = true then (some false) else ((laws_toDisk.f k x268000).bind fun t297 => ((laws_eqDisk.f k x287000 t297).bind fun t300 => (if t300 = true then ((laws_markDisk.f k x287000 1).bind fun bt301 => (if bt301.1 < 0 then (laws_FnExactDoAct.j1 k x7 true x268000 x269000 x269001 x269002 x269003 x283000 x296000) else ((laws_eqDisk.f k x296000 x283000).bind fun t303 => (if t303 = true then (laws_FnExactDoAct.j1 k x7 (x10 != x7) x268000 x269000 x269001 x269002 x269003 x283000 x296000) else (laws_FnExactDoAct.j1 k x7 true x268000 x269000 x269001 x269002 x269003 x283000 x296000))))) else (some false))))
def laws_FnExactDoAct.j1 : Nat → Bool → Bool → List (S94) → Int → ByteArray → ByteArray → ByteArray → List (S45) → List (S45) → Option (Bool)
 | 0, _, _, _, _, _, _, _, _, _ => none
 | k + 1, x7, x72, x268000, x269000, x269001, x269002, x269003, x283000, x296000 => if x72 = true then (some false) else ((laws_markDisk.f k x296000 1).bind fun bt304 => ((laws_heldDisk.f k bt304.2 1).bind fun t306 => (if t306 < 0 then (some false) else (if t306 = bt304.1 then ((laws_toDisk.f k x268000).bind fun t307 => ((laws_toAct.f x269000 x269001 x269002 x269003).bind fun bt310 => ((impl_DoAct.f k t307 bt310.1 bt310.2.1 bt310.2.2.1 bt310.2.2.2).bind fun bt314 => ((laws_eqDisk.f k bt314.1 x283000).bind fun t319 => (if t319 = true then (laws_FnExactDoAct.j2 k bt304.1 (bt314.2 != x7) bt304.2) else (laws_FnExactDoAct.j2 k bt304.1 true bt304.2)))))) else (some false)))))
def laws_FnExactDoAct.j2 : Nat → Int → Bool → List (S45) → Option (Bool)
 | 0, _, _, _ => none
 | k + 1, x12, x100, x296000 => if x100 = true then (some false) else ((laws_heldDisk.f k x296000 1).bind fun t320 => (if t320 < 0 then (some false) else (if t320 = x12 then (some true) else (some false))))
end
def laws_FnExactDoAct.f (k : Nat) (l0_0 : List (S94)) (a1_0 : Int) (a1_1 : ByteArray) (a1_2 : ByteArray) (a1_3 : ByteArray) : Option (Bool) := (laws_szDisk.f k l0_0 1048576).bind fun t269 => (if t269 < 0 then (some true) else ((laws_szAct.f a1_0 a1_1 a1_2 a1_3 t269).bind fun t270 => (if t270 < 0 then (some true) else ((laws_toDisk.f k l0_0).bind fun t271 => ((laws_toAct.f a1_0 a1_1 a1_2 a1_3).bind fun bt274 => ((spec_DoAct.f k t271 bt274.1 bt274.2.1 bt274.2.2.1 bt274.2.2.2).bind fun bt278 => ((laws_toDisk.f k l0_0).bind fun t283 => ((laws_toAct.f a1_0 a1_1 a1_2 a1_3).bind fun bt287 => ((impl_DoAct.f k t283 bt287.1 bt287.2.1 bt287.2.2.1 bt287.2.2.2).bind fun bt291 => ((laws_eqDisk.f k bt291.1 bt278.1).bind fun t296 => (if t296 = true then (laws_FnExactDoAct.j0 k bt278.2 bt291.2 (bt291.2 != bt278.2) l0_0 a1_0 a1_1 a1_2 a1_3 bt278.1 t283 bt291.1) else (laws_FnExactDoAct.j0 k bt278.2 bt291.2 true l0_0 a1_0 a1_1 a1_2 a1_3 bt278.1 t283 bt291.1))))))))))))
theorem laws_FnExactDoAct.mono_l : ∀ k, (∀ y0 y1 y2 y3 y4 y5 y6 y7 y8 y9 y10, LeO (laws_FnExactDoAct.j0 k y0 y1 y2 y3 y4 y5 y6 y7 y8 y9 y10) (laws_FnExactDoAct.j0 (k + 1) y0 y1 y2 y3 y4 y5 y6 y7 y8 y9 y10)) ∧ (∀ y0 y1 y2 y3 y4 y5 y6 y7 y8, LeO (laws_FnExactDoAct.j1 k y0 y1 y2 y3 y4 y5 y6 y7 y8) (laws_FnExactDoAct.j1 (k + 1) y0 y1 y2 y3 y4 y5 y6 y7 y8)) ∧ (∀ y0 y1 y2, LeO (laws_FnExactDoAct.j2 k y0 y1 y2) (laws_FnExactDoAct.j2 (k + 1) y0 y1 y2))
 | 0 => ⟨fun _ _ _ _ _ _ _ _ _ _ _ r h => by simp [laws_FnExactDoAct.j0] at h, fun _ _ _ _ _ _ _ _ _ r h => by simp [laws_FnExactDoAct.j1] at h, fun _ _ _ r h => by simp [laws_FnExactDoAct.j2] at h⟩
 | k + 1 => by
  obtain ⟨ih0, ih1, ih2⟩ := laws_FnExactDoAct.mono_l k
  refine ⟨?_, ?_, ?_⟩
  ·intro y0 y1 y2 y3 y4 y5 y6 y7 y8 y9 y10
   unfold laws_FnExactDoAct.j0
   repeat' first
   | (with_reducible exact ih0 _ _ _ _ _ _ _ _ _ _ _)
   | (with_reducible exact ih1 _ _ _ _ _ _ _ _ _)
   | (with_reducible exact ih2 _ _ _)
   | (with_reducible exact impl_DoAct.mono _ _ _ _ _ _)
   | (with_reducible exact laws_eqDisk.mono _ _ _)
   | (with_reducible exact laws_heldDisk.mono _ _ _)
   | (with_reducible exact laws_markDisk.mono _ _ _)
   | (with_reducible exact laws_szDisk.mono _ _ _)
   | (with_reducible exact laws_toDisk.mono _ _)
   | (with_reducible exact spec_DoAct.mono _ _ _ _ _ _)
   | (with_reducible exact LeO.refl _)
   | (with_reducible exact LeO.none _)
   | (with_reducible refine LeO.ite ?_ ?_)
   | (with_reducible refine LeO.bind ?_ (fun _ => ?_))
   | exact ih0 _ _ _ _ _ _ _ _ _ _ _
   | exact ih1 _ _ _ _ _ _ _ _ _
   | exact ih2 _ _ _
   | exact impl_DoAct.mono _ _ _ _ _ _
   | exact laws_eqDisk.mono _ _ _
   | exact laws_heldDisk.mono _ _ _
   | exact laws_markDisk.mono _ _ _
   | exact laws_szDisk.mono _ _ _
   | exact laws_toDisk.mono _ _
   | exact spec_DoAct.mono _ _ _ _ _ _
   | exact LeO.none _
   | refine LeO.ite ?_ ?_
   | refine LeO.bind ?_ (fun _ => ?_)
  ·intro y0 y1 y2 y3 y4 y5 y6 y7 y8
   unfold laws_FnExactDoAct.j1
   repeat' first
   | (with_reducible exact ih0 _ _ _ _ _ _ _ _ _ _ _)
   | (with_reducible exact ih1 _ _ _ _ _ _ _ _ _)
   | (with_reducible exact ih2 _ _ _)
   | (with_reducible exact impl_DoAct.mono _ _ _ _ _ _)
   | (with_reducible exact laws_eqDisk.mono _ _ _)
   | (with_reducible exact laws_heldDisk.mono _ _ _)
   | (with_reducible exact laws_markDisk.mono _ _ _)
   | (with_reducible exact laws_szDisk.mono _ _ _)
   | (with_reducible exact laws_toDisk.mono _ _)
   | (with_reducible exact spec_DoAct.mono _ _ _ _ _ _)
   | (with_reducible exact LeO.refl _)
   | (with_reducible exact LeO.none _)
   | (with_reducible refine LeO.ite ?_ ?_)
   | (with_reducible refine LeO.bind ?_ (fun _ => ?_))
   | exact ih0 _ _ _ _ _ _ _ _ _ _ _
   | exact ih1 _ _ _ _ _ _ _ _ _
   | exact ih2 _ _ _
   | exact impl_DoAct.mono _ _ _ _ _ _
   | exact laws_eqDisk.mono _ _ _
   | exact laws_heldDisk.mono _ _ _
   | exact laws_markDisk.mono _ _ _
   | exact laws_szDisk.mono _ _ _
   | exact laws_toDisk.mono _ _
   | exact spec_DoAct.mono _ _ _ _ _ _
   | exact LeO.none _
   | refine LeO.ite ?_ ?_
   | refine LeO.bind ?_ (fun _ => ?_)
  ·intro y0 y1 y2
   unfold laws_FnExactDoAct.j2
   repeat' first
   | (with_reducible exact ih0 _ _ _ _ _ _ _ _ _ _ _)
   | (with_reducible exact ih1 _ _ _ _ _ _ _ _ _)
   | (with_reducible exact ih2 _ _ _)
   | (with_reducible exact impl_DoAct.mono _ _ _ _ _ _)
   | (with_reducible exact laws_eqDisk.mono _ _ _)
   | (with_reducible exact laws_heldDisk.mono _ _ _)
   | (with_reducible exact laws_markDisk.mono _ _ _)
   | (with_reducible exact laws_szDisk.mono _ _ _)
   | (with_reducible exact laws_toDisk.mono _ _)
   | (with_reducible exact spec_DoAct.mono _ _ _ _ _ _)
   | (with_reducible exact LeO.refl _)
   | (with_reducible exact LeO.none _)
   | (with_reducible refine LeO.ite ?_ ?_)
   | (with_reducible refine LeO.bind ?_ (fun _ => ?_))
   | exact ih0 _ _ _ _ _ _ _ _ _ _ _
   | exact ih1 _ _ _ _ _ _ _ _ _
   | exact ih2 _ _ _
   | exact impl_DoAct.mono _ _ _ _ _ _
   | exact laws_eqDisk.mono _ _ _
   | exact laws_heldDisk.mono _ _ _
   | exact laws_markDisk.mono _ _ _
   | exact laws_szDisk.mono _ _ _
   | exact laws_toDisk.mono _ _
   | exact spec_DoAct.mono _ _ _ _ _ _
   | exact LeO.none _
   | refine LeO.ite ?_ ?_
   | refine LeO.bind ?_ (fun _ => ?_)
theorem laws_FnExactDoAct.mono : ∀ a0 a1 a2 a3 a4 k, LeO (laws_FnExactDoAct.f k a0 a1 a2 a3 a4) (laws_FnExactDoAct.f (k + 1) a0 a1 a2 a3 a4) := by
 intro a0 a1 a2 a3 a4 k
 obtain ⟨ih0, ih1, ih2⟩ := laws_FnExactDoAct.mono_l k
 unfold laws_FnExactDoAct.f
 repeat' first
   | (with_reducible exact ih0 _ _ _ _ _ _ _ _ _ _ _)
   | (with_reducible exact ih1 _ _ _ _ _ _ _ _ _)
   | (with_reducible exact ih2 _ _ _)
   | (with_reducible exact impl_DoAct.mono _ _ _ _ _ _)
   | (with_reducible exact laws_eqDisk.mono _ _ _)
   | (with_reducible exact laws_heldDisk.mono _ _ _)
   | (with_reducible exact laws_markDisk.mono _ _ _)
   | (with_reducible exact laws_szDisk.mono _ _ _)
   | (with_reducible exact laws_toDisk.mono _ _)
   | (with_reducible exact spec_DoAct.mono _ _ _ _ _ _)
   | (with_reducible exact LeO.refl _)
   | (with_reducible exact LeO.none _)
   | (with_reducible refine LeO.ite ?_ ?_)
   | (with_reducible refine LeO.bind ?_ (fun _ => ?_))
   | exact ih0 _ _ _ _ _ _ _ _ _ _ _
   | exact ih1 _ _ _ _ _ _ _ _ _
   | exact ih2 _ _ _
   | exact impl_DoAct.mono _ _ _ _ _ _
   | exact laws_eqDisk.mono _ _ _
   | exact laws_heldDisk.mono _ _ _
   | exact laws_markDisk.mono _ _ _
   | exact laws_szDisk.mono _ _ _
   | exact laws_toDisk.mono _ _
   | exact spec_DoAct.mono _ _ _ _ _ _
   | exact LeO.none _
   | refine LeO.ite ?_ ?_
   | refine LeO.bind ?_ (fun _ => ?_)
def laws_FnExactDoAct.T8 : Bool × List (List Nat × List Nat) := (true, [([], []), ([0], [0]), ([], []), ([2, 1], [2]), ([1, 3, 3], [1, 3]), ([4], [4]), ([5], [5]), ([5], [5]), ([], []), ([8, 6, 4, 0, 1, 2, 3, 4, 5, 6, 8], [6, 8]), ([7, 9, 0, 1, 2, 3, 4, 5, 6, 7, 8, 9], [7])])
def laws_FnExactDoAct.B8 : List Nat := [0, 1, 0, 7, 15, 31, 63, 63, 0, 383, 1023]
theorem laws_FnExactDoAct.tab8 : rtab .any (opsOf Try.f8 8) = laws_FnExactDoAct.T8 := by kernel_rfl
theorem laws_FnExactDoAct.bits8 : waitsOk laws_FnExactDoAct.T8.2 laws_FnExactDoAct.B8 = true := by kernel_rfl
def laws_FnExactDoAct.T10 : Bool × List (List Nat × List Nat) := (true, [([], []), ([], []), ([1], [1]), ([0, 2, 2], [0, 2]), ([3], [3]), ([4], [4]), ([4], [4]), ([], []), ([7, 5, 3, 0, 1, 2, 3, 4, 5, 7], [5, 7]), ([6, 8, 0, 1, 2, 3, 4, 5, 6, 7, 8], [6])])
def laws_FnExactDoAct.B10 : List Nat := [0, 0, 2, 7, 15, 31, 31, 0, 191, 511]
theorem laws_FnExactDoAct.tab10 : rtab .any (opsOf Try.f8 10) = laws_FnExactDoAct.T10 := by kernel_rfl
theorem laws_FnExactDoAct.bits10 : waitsOk laws_FnExactDoAct.T10.2 laws_FnExactDoAct.B10 = true := by kernel_rfl
def laws_FnExactDoAct.T27 : Bool × List (List Nat × List Nat) := (true, [([], []), ([0], [0]), ([], []), ([2, 1], [2]), ([1, 3, 3], [1, 3]), ([4], [4]), ([5], [5]), ([5], [5]), ([], []), ([8, 6, 4, 0, 1, 2, 3, 4, 5, 6, 8], [6, 8]), ([7, 9, 0, 1, 2, 3, 4, 5, 6, 7, 8, 9], [7])])
def laws_FnExactDoAct.B27 : List Nat := [0, 1, 0, 7, 15, 31, 63, 63, 0, 383, 1023]
theorem laws_FnExactDoAct.tab27 : rtab .any (opsOf Try.f8 27) = laws_FnExactDoAct.T27 := by kernel_rfl
theorem laws_FnExactDoAct.bits27 : waitsOk laws_FnExactDoAct.T27.2 laws_FnExactDoAct.B27 = true := by kernel_rfl
theorem laws_FnExactDoAct.j0_t {k : Nat} {y0} {y1} {y3} {y4} {y5} {y6} {y7} {y8} {y9} {y10} : ¬ laws_FnExactDoAct.j0 k y0 y1 true y3 y4 y5 y6 y7 y8 y9 y10 = some true := by cases k <;> simp [laws_FnExactDoAct.j0]
theorem laws_FnExactDoAct.j1_t {k : Nat} {y0} {y2} {y3} {y4} {y5} {y6} {y7} {y8} : ¬ laws_FnExactDoAct.j1 k y0 true y2 y3 y4 y5 y6 y7 y8 = some true := by cases k <;> simp [laws_FnExactDoAct.j1]
theorem laws_FnExactDoAct.j2_t {k : Nat} {y0} {y2} : ¬ laws_FnExactDoAct.j2 k y0 true y2 = some true := by cases k <;> simp [laws_FnExactDoAct.j2]
abbrev q15_0 : Array Bool := #[false, false, false, false, false, false, false, false, false, false, false]
abbrev q15_1 : Array Bool := #[true, false, false, false, false, false, false, false, false, false, false]
abbrev q15_2 : Array Bool := #[true, false, true, false, false, false, false, false, false, false, false]
abbrev q15_3 : Array Bool := #[true, true, true, true, true, true, true, true, true, false, false]
abbrev q15_4 : Array Bool := #[true, true, true, false, false, false, false, false, false, false, false]
abbrev q15_5 : Array Bool := #[true, false, true, false, false, false, false, false, true, false, false]
abbrev q15_6 : Array Bool := #[true, true, true, true, false, false, false, false, false, false, false]
abbrev q15_7 : Array Bool := #[true, true, true, false, false, false, false, false, true, false, false]
abbrev q15_8 : Array Bool := #[true, true, true, true, true, false, false, false, false, false, false]
abbrev q15_9 : Array Bool := #[true, true, true, true, false, false, false, false, true, false, false]
abbrev q15_10 : Array Bool := #[true, true, true, true, true, true, false, false, false, false, false]
abbrev q15_11 : Array Bool := #[true, true, true, true, true, true, true, false, false, false, false]
abbrev q15_12 : Array Bool := #[true, true, true, true, true, true, true, true, false, false, false]
abbrev q15_13 : Array Bool := #[true, true, true, true, true, false, false, false, true, false, false]
abbrev q15_14 : Array Bool := #[true, true, true, true, true, true, false, false, true, false, false]
abbrev q15_15 : Array Bool := #[true, true, true, true, true, true, true, false, true, false, false]
abbrev q15_16 : Array Bool := #[true, true, true, true, true, true, true, true, true, true, false]
abbrev q15_17 : Array Bool := #[true, true, true, true, true, true, true, true, true, true, true]
abbrev q15_18 : Array Bool := #[false, false, false, false, false, false, false, false, false, false]
abbrev q15_19 : Array Bool := #[true, false, false, false, false, false, false, false, false, false]
abbrev q15_20 : Array Bool := #[true, true, false, false, false, false, false, false, false, false]
abbrev q15_21 : Array Bool := #[true, true, true, true, true, true, true, true, false, false]
abbrev q15_22 : Array Bool := #[true, true, true, false, false, false, false, false, false, false]
abbrev q15_23 : Array Bool := #[true, true, false, false, false, false, false, true, false, false]
abbrev q15_24 : Array Bool := #[true, true, true, true, false, false, false, false, false, false]
abbrev q15_25 : Array Bool := #[true, true, true, false, false, false, false, true, false, false]
abbrev q15_26 : Array Bool := #[true, true, true, true, true, false, false, false, false, false]
abbrev q15_27 : Array Bool := #[true, true, true, true, true, true, false, false, false, false]
abbrev q15_28 : Array Bool := #[true, true, true, true, true, true, true, false, false, false]
abbrev q15_29 : Array Bool := #[true, true, true, true, false, false, false, true, false, false]
abbrev q15_30 : Array Bool := #[true, true, true, true, true, false, false, true, false, false]
abbrev q15_31 : Array Bool := #[true, true, true, true, true, true, false, true, false, false]
abbrev q15_32 : Array Bool := #[true, true, true, true, true, true, true, true, true, false]
abbrev q15_33 : Array Bool := #[true, true, true, true, true, true, true, true, true, true]
set_option maxHeartbeats 8000000 in
set_option maxRecDepth 100000 in
theorem laws_FnExactDoAct.calls (k : Nat) (A0_0 : Option Addr) (c0_0 : Nat) (l0_0 : List (S94)) (a1_0 : Int) (a1_1 : ByteArray) (a1_2 : ByteArray) (a1_3 : ByteArray) (r : Bool) (w : World) (hr0_0 : Kd.C k94 w A0_0 l0_0.length l0_0) (hc0_0 : l0_0.length ≤ c0_0) (hr_ : r = true) (h : laws_FnExactDoAct.f k l0_0 a1_0 a1_1 a1_2 a1_3 = some r) :
  Calls Try.prog 8 #[.agg #[.slice A0_0 l0_0.length c0_0], .agg #[.int .i64 a1_0, .string a1_1, .string a1_2, .string a1_3]] w fun e w' => e = .returned (.bool r) ∧ Below w.heap.size w w' := by
 have hu24 := Try.underlying24
 have hu52 := Try.underlying52
 have hu29 := Try.underlying29
 have HR0_0 := Aside0.mk hr0_0
 have HC0_0 := Aside0.mk hc0_0
 clear hr0_0 hc0_0
 have HB := Aside0.mk (Below.refl w.heap.size w)
 have HR_ := Aside0.mk hr_
 clear hr_
 have H : ((laws_szDisk.f k l0_0 1048576).bind fun t269 => (if t269 < 0 then (some true) else ((laws_szAct.f a1_0 a1_1 a1_2 a1_3 t269).bind fun t270 => (if t270 < 0 then (some true) else ((laws_toDisk.f k l0_0).bind fun t271 => ((laws_toAct.f a1_0 a1_1 a1_2 a1_3).bind fun bt274 => ((spec_DoAct.f k t271 bt274.1 bt274.2.1 bt274.2.2.1 bt274.2.2.2).bind fun bt278 => ((laws_toDisk.f k l0_0).bind fun t283 => ((laws_toAct.f a1_0 a1_1 a1_2 a1_3).bind fun bt287 => ((impl_DoAct.f k t283 bt287.1 bt287.2.1 bt287.2.2.1 bt287.2.2.2).bind fun bt291 => ((laws_eqDisk.f k bt291.1 bt278.1).bind fun t296 => (if t296 = true then (laws_FnExactDoAct.j0 k bt278.2 bt291.2 (bt291.2 != bt278.2) l0_0 a1_0 a1_1 a1_2 a1_3 bt278.1 t283 bt291.1) else (laws_FnExactDoAct.j0 k bt278.2 bt291.2 true l0_0 a1_0 a1_1 a1_2 a1_3 bt278.1 t283 bt291.1))))))))))))) = some r := h
 clear h
 replace H := Option.bind_eq_some_iff.mp H
 obtain ⟨t269, A30, H⟩ := H
 have A3 := Aside0.mk A30
 clear A30
 by_cases c4 : t269 < 0
 ·rw [if_pos c4] at H
  have c4b0 : decide (t269 < 0) = true := decide_eq_true c4
  clear c4
  obtain rfl := Option.some.inj H
  go_enter Try.func8, Try.ntmps8
  go_wp2_with (first | ((with_reducible refine gate_dst (N := 2) rfl ?_); refine zx (N := 2) (cs := #[.slice A0_0 l0_0.length c0_0]) (t := 24) ?_; intro gb267 hg w5 hbox hb; have BK267 := Aside0.mk (hbox); have GW267 := zg HB hg; have GE267 := zg HB hg; replace HB := zs HB hb; clear hb hbox hg) | ((with_reducible refine gate_dst (N := 3) rfl ?_); refine zx (N := 3) (cs := #[.int .i64 a1_0, .string a1_1, .string a1_2, .string a1_3]) (t := 52) ?_; intro gb268 hg w6 hbox hb; have BK268 := Aside0.mk (hbox); have GW268 := zg HB hg; have GE268 := zg HB hg; replace HB := zs HB hb; have NB267_268 := zl BK267 hg; have NB268_267 := zr BK267 hg; replace BK267 := zb BK267 hb; clear hb hbox hg; have hnb7 := NB267_268.out; have hnc7 := NB268_267.out; have hcz8_0 : w6.cell? ⟨gb267, 0, none⟩ = some (.slice A0_0 l0_0.length c0_0) := (blk_cell BK267.out 0).trans rfl; have hfz8_0 := blk_frozen BK267.out 0) | ((with_reducible refine gate_callee (f := 12) rfl ?_); refine zG (some 18) Try.func12 #[.agg #[.slice A0_0 l0_0.length c0_0], .int .i64 1048576] ?_; (with_reducible refine (laws_szDisk.calls k _ _ l0_0 1048576 t269 _ ?side1 ?side2 A3.out).mono ?_); (case side1 => exact zI (Kd.C_below HR0_0.out HB.out)); (case side2 => exact HC0_0.out); rintro e w9 ⟨rfl, hb⟩; refine ⟨_, rfl, ?_⟩; replace BK267 := zb BK267 hb; replace BK268 := zb BK268 hb; replace HB := zs HB hb; clear hb))
  go_ret
  exact ⟨ze, zw HB⟩
 ·rw [if_neg c4] at H
  have c4b0 : decide (t269 < 0) = false := decide_eq_false c4
  clear c4
  replace H := Option.bind_eq_some_iff.mp H
  obtain ⟨t270, A100, H⟩ := H
  have A10 := Aside0.mk A100
  clear A100
  by_cases c11 : t270 < 0
  ·rw [if_pos c11] at H
   have c11b0 : decide (t270 < 0) = true := decide_eq_true c11
   clear c11
   obtain rfl := Option.some.inj H
   go_enter Try.func8, Try.ntmps8
   go_wp2_with (first | ((with_reducible refine gate_dst (N := 2) rfl ?_); refine zx (N := 2) (cs := #[.slice A0_0 l0_0.length c0_0]) (t := 24) ?_; intro gb267 hg w12 hbox hb; have BK267 := Aside0.mk (hbox); have GW267 := zg HB hg; have GE267 := zg HB hg; replace HB := zs HB hb; clear hb hbox hg) | ((with_reducible refine gate_dst (N := 3) rfl ?_); refine zx (N := 3) (cs := #[.int .i64 a1_0, .string a1_1, .string a1_2, .string a1_3]) (t := 52) ?_; intro gb268 hg w13 hbox hb; have BK268 := Aside0.mk (hbox); have GW268 := zg HB hg; have GE268 := zg HB hg; replace HB := zs HB hb; have NB267_268 := zl BK267 hg; have NB268_267 := zr BK267 hg; replace BK267 := zb BK267 hb; clear hb hbox hg; have hnb14 := NB267_268.out; have hnc14 := NB268_267.out; have hcz15_0 : w13.cell? ⟨gb267, 0, none⟩ = some (.slice A0_0 l0_0.length c0_0) := (blk_cell BK267.out 0).trans rfl; have hfz15_0 := blk_frozen BK267.out 0) | ((with_reducible refine gate_callee (f := 12) rfl ?_); refine zG (some 18) Try.func12 #[.agg #[.slice A0_0 l0_0.length c0_0], .int .i64 1048576] ?_; (with_reducible refine (laws_szDisk.calls k _ _ l0_0 1048576 t269 _ ?side1 ?side2 A3.out).mono ?_); (case side1 => exact zI (Kd.C_below HR0_0.out HB.out)); (case side2 => exact HC0_0.out); rintro e w16 ⟨rfl, hb⟩; refine ⟨_, rfl, ?_⟩; replace BK267 := zb BK267 hb; replace BK268 := zb BK268 hb; replace HB := zs HB hb; clear hb; have hcz17_0 : w16.cell? ⟨gb268, 0, none⟩ = some (.int .i64 a1_0) := (blk_cell BK268.out 0).trans rfl; have hcz17_1 : w16.cell? ⟨gb268, 1, none⟩ = some (.string a1_1) := (blk_cell BK268.out 1).trans rfl; have hcz17_2 : w16.cell? ⟨gb268, 2, none⟩ = some (.string a1_2) := (blk_cell BK268.out 2).trans rfl; have hcz17_3 : w16.cell? ⟨gb268, 3, none⟩ = some (.string a1_3) := (blk_cell BK268.out 3).trans rfl; have hfz17_0 := blk_frozen BK268.out 0; have hfz17_1 := blk_frozen BK268.out 1; have hfz17_2 := blk_frozen BK268.out 2; have hfz17_3 := blk_frozen BK268.out 3) | ((with_reducible refine gate_callee (f := 34) rfl ?_); refine zG (some 23) Try.func34 #[.agg #[.int .i64 a1_0, .string a1_1, .string a1_2, .string a1_3], .int .i64 t269] ?_; (with_reducible refine (laws_szAct.calls a1_0 a1_1 a1_2 a1_3 t269 t270 _ A10.out).mono ?_); rintro e w18 ⟨rfl, hb⟩; refine ⟨_, rfl, ?_⟩; replace BK267 := zb BK267 hb; replace BK268 := zb BK268 hb; replace HB := zs HB hb; clear hb))
   go_ret
   exact ⟨ze, zw HB⟩
  ·rw [if_neg c11] at H
   have c11b0 : decide (t270 < 0) = false := decide_eq_false c11
   clear c11
   replace H := Option.bind_eq_some_iff.mp H
   obtain ⟨t271, A190, H⟩ := H
   have A19 := Aside0.mk A190
   clear A190
   replace H := Option.bind_eq_some_iff.mp H
   obtain ⟨⟨t274, t275, t276, t277⟩, A200, H⟩ := H
   replace H : ((spec_DoAct.f k t271 t274 t275 t276 t277).bind fun bt278 => ((laws_toDisk.f k l0_0).bind fun t283 => ((laws_toAct.f a1_0 a1_1 a1_2 a1_3).bind fun bt287 => ((impl_DoAct.f k t283 bt287.1 bt287.2.1 bt287.2.2.1 bt287.2.2.2).bind fun bt291 => ((laws_eqDisk.f k bt291.1 bt278.1).bind fun t296 => (if t296 = true then (laws_FnExactDoAct.j0 k bt278.2 bt291.2 (bt291.2 != bt278.2) l0_0 a1_0 a1_1 a1_2 a1_3 bt278.1 t283 bt291.1) else (laws_FnExactDoAct.j0 k bt278.2 bt291.2 true l0_0 a1_0 a1_1 a1_2 a1_3 bt278.1 t283 bt291.1))))))) = some r := H
   have A20 := Aside0.mk A200
   clear A200
   replace H := Option.bind_eq_some_iff.mp H
   obtain ⟨⟨t278, t281⟩, A210, H⟩ := H
   replace H : ((laws_toDisk.f k l0_0).bind fun t283 => ((laws_toAct.f a1_0 a1_1 a1_2 a1_3).bind fun bt287 => ((impl_DoAct.f k t283 bt287.1 bt287.2.1 bt287.2.2.1 bt287.2.2.2).bind fun bt291 => ((laws_eqDisk.f k bt291.1 t278).bind fun t296 => (if t296 = true then (laws_FnExactDoAct.j0 k t281 bt291.2 (bt291.2 != t281) l0_0 a1_0 a1_1 a1_2 a1_3 t278 t283 bt291.1) else (laws_FnExactDoAct.j0 k t281 bt291.2 true l0_0 a1_0 a1_1 a1_2 a1_3 t278 t283 bt291.1)))))) = some r := H
   have A21 := Aside0.mk A210
   clear A210
   replace H := Option.bind_eq_some_iff.mp H
   obtain ⟨t283, A220, H⟩ := H
   have A22 := Aside0.mk A220
   clear A220
   replace H := Option.bind_eq_some_iff.mp H
   obtain ⟨⟨t287, t288, t289, t290⟩, A230, H⟩ := H
   replace H : ((impl_DoAct.f k t283 t287 t288 t289 t290).bind fun bt291 => ((laws_eqDisk.f k bt291.1 t278).bind fun t296 => (if t296 = true then (laws_FnExactDoAct.j0 k t281 bt291.2 (bt291.2 != t281) l0_0 a1_0 a1_1 a1_2 a1_3 t278 t283 bt291.1) else (laws_FnExactDoAct.j0 k t281 bt291.2 true l0_0 a1_0 a1_1 a1_2 a1_3 t278 t283 bt291.1)))) = some r := H
   have A23 := Aside0.mk A230
   clear A230
   replace H := Option.bind_eq_some_iff.mp H
   obtain ⟨⟨t291, t294⟩, A240, H⟩ := H
   replace H : ((laws_eqDisk.f k t291 t278).bind fun t296 => (if t296 = true then (laws_FnExactDoAct.j0 k t281 t294 (t294 != t281) l0_0 a1_0 a1_1 a1_2 a1_3 t278 t283 t291) else (laws_FnExactDoAct.j0 k t281 t294 true l0_0 a1_0 a1_1 a1_2 a1_3 t278 t283 t291))) = some r := H
   have A24 := Aside0.mk A240
   clear A240
   have HC25 := Aside0.mk H
   clear H
   go_enter Try.func8, Try.ntmps8
   try go_wp2_with (first | ((with_reducible refine gate_dst (N := 2) rfl ?_); refine zx (N := 2) (cs := #[.slice A0_0 l0_0.length c0_0]) (t := 24) ?_; intro gb267 hg w26 hbox hb; have BK267 := Aside0.mk (hbox); have GW267 := zg HB hg; have GE267 := zg HB hg; replace HB := zs HB hb; clear hb hbox hg) | ((with_reducible refine gate_dst (N := 3) rfl ?_); refine zx (N := 3) (cs := #[.int .i64 a1_0, .string a1_1, .string a1_2, .string a1_3]) (t := 52) ?_; intro gb268 hg w27 hbox hb; have BK268 := Aside0.mk (hbox); have GW268 := zg HB hg; have GE268 := zg HB hg; replace HB := zs HB hb; have NB267_268 := zl BK267 hg; have NB268_267 := zr BK267 hg; replace BK267 := zb BK267 hb; clear hb hbox hg; have hnb28 := NB267_268.out; have hnc28 := NB268_267.out; have hcz29_0 : w27.cell? ⟨gb267, 0, none⟩ = some (.slice A0_0 l0_0.length c0_0) := (blk_cell BK267.out 0).trans rfl; have hfz29_0 := blk_frozen BK267.out 0) | ((with_reducible refine gate_callee (f := 12) rfl ?_); refine zG (some 18) Try.func12 #[.agg #[.slice A0_0 l0_0.length c0_0], .int .i64 1048576] ?_; (with_reducible refine (laws_szDisk.calls k _ _ l0_0 1048576 t269 _ ?side1 ?side2 A3.out).mono ?_); (case side1 => exact zI (Kd.C_below HR0_0.out HB.out)); (case side2 => exact HC0_0.out); rintro e w30 ⟨rfl, hb⟩; refine ⟨_, rfl, ?_⟩; replace BK267 := zb BK267 hb; replace BK268 := zb BK268 hb; replace HB := zs HB hb; clear hb; have hcz31_0 : w30.cell? ⟨gb268, 0, none⟩ = some (.int .i64 a1_0) := (blk_cell BK268.out 0).trans rfl; have hcz31_1 : w30.cell? ⟨gb268, 1, none⟩ = some (.string a1_1) := (blk_cell BK268.out 1).trans rfl; have hcz31_2 : w30.cell? ⟨gb268, 2, none⟩ = some (.string a1_2) := (blk_cell BK268.out 2).trans rfl; have hcz31_3 : w30.cell? ⟨gb268, 3, none⟩ = some (.string a1_3) := (blk_cell BK268.out 3).trans rfl; have hfz31_0 := blk_frozen BK268.out 0; have hfz31_1 := blk_frozen BK268.out 1; have hfz31_2 := blk_frozen BK268.out 2; have hfz31_3 := blk_frozen BK268.out 3) | ((with_reducible refine gate_callee (f := 34) rfl ?_); refine zG (some 23) Try.func34 #[.agg #[.int .i64 a1_0, .string a1_1, .string a1_2, .string a1_3], .int .i64 t269] ?_; (with_reducible refine (laws_szAct.calls a1_0 a1_1 a1_2 a1_3 t269 t270 _ A10.out).mono ?_); rintro e w32 ⟨rfl, hb⟩; refine ⟨_, rfl, ?_⟩; replace BK267 := zb BK267 hb; replace BK268 := zb BK268 hb; replace HB := zs HB hb; clear hb))
   replace BK267 := Aside0.mk (blk_drew BK267.out)
   replace BK268 := Aside0.mk (blk_drew BK268.out)
   replace HB := Aside0.mk (below_drew1 HB.out)
   refine start_ (n := 11) (S := fun w' => w'.cell? ⟨gb267, 0, none⟩ = some (.slice A0_0 l0_0.length c0_0) ∧ w'.cell? ⟨gb268, 0, none⟩ = some (.int .i64 a1_0) ∧ w'.cell? ⟨gb268, 1, none⟩ = some (.string a1_1) ∧ w'.cell? ⟨gb268, 2, none⟩ = some (.string a1_2) ∧ w'.cell? ⟨gb268, 3, none⟩ = some (.string a1_3)) (ds := []) q15_0 (by kernel_rfl) rfl rfl ⟨(blk_cell BK267.out 0).trans rfl, (blk_cell BK268.out 0).trans rfl, (blk_cell BK268.out 1).trans rfl, (blk_cell BK268.out 2).trans rfl, (blk_cell BK268.out 3).trans rfl⟩ (fun hHeld => ?_); refine with_tabW laws_FnExactDoAct.tab8 laws_FnExactDoAct.bits8 (fun HT_ HW_ => ?_)
   generalize w32.drew = w33 at BK267 BK268 HB hHeld ⊢
   refine zT 0 (some 27) q15_1 HT_ HW_ hHeld ?_
   refine zT 2 (some 29) q15_2 HT_ HW_ hHeld ?_
   refine join_ (σ := Value × Value × Nat) 2 q15_3 (fun s_ => [(28, .agg #[s_.1]), (30, .agg #[.int .i64 t274, .string t275, .string t276, .string t277]), (31, .tuple #[.agg #[s_.2.1], .bool t281]), (6, .pointer (some ⟨s_.2.2, 0, none⟩)), (26, .tuple #[.agg #[s_.2.1], .bool t281]), (32, .agg #[s_.2.1]), (33, .bool t281)]) (fun s_ w' => (w'.cell? ⟨gb267, 0, none⟩ = some (.slice A0_0 l0_0.length c0_0) ∧ w'.cell? ⟨gb268, 0, none⟩ = some (.int .i64 a1_0) ∧ w'.cell? ⟨gb268, 1, none⟩ = some (.string a1_1) ∧ w'.cell? ⟨gb268, 2, none⟩ = some (.string a1_2) ∧ w'.cell? ⟨gb268, 3, none⟩ = some (.string a1_3)) ∧ (Kd.R k45 45 w' w.heap.size (fun k_ => some k_ ≠ (s_.2.1 : Value).ownBlock) s_.1 t271) ∧ (Kd.R k45 45 w' w.heap.size (fun k_ => some k_ ≠ (s_.1 : Value).ownBlock) s_.2.1 t278) ∧ (w'.heap[gb267]? = some (.cells #[.slice A0_0 l0_0.length c0_0] 24 (0, 0))) ∧ (w'.heap[gb268]? = some (.cells #[.int .i64 a1_0, .string a1_1, .string a1_2, .string a1_3] 52 (0, 0))) ∧ (w'.heap[s_.2.2]? = some (.cells #[.slice none 0 0] 29 (0, 0))) ∧ (w.heap.size ≤ s_.2.2) ∧ (w.heap.size ≤ s_.2.2) ∧ (gb267 ≠ s_.2.2) ∧ (s_.2.2 ≠ gb267) ∧ (gb268 ≠ s_.2.2) ∧ (s_.2.2 ≠ gb268) ∧ (Below w.heap.size w w')) ?_ ?_
   rotate_left
   ·intro hCont
    refine two_ (i := 1) (j := 8) (Ni := some 28) (Nj := some 6) q15_4 q15_5 rfl rfl rfl rfl (two_of HT_.out (by kernel_rfl)) (by decide) (by decide) (fun K hK => ?_) (fun K hK => ?_)
    ·skip
     refine zH Try.func14 #[.agg #[.slice A0_0 l0_0.length c0_0]] ?_
     with_reducible refine (laws_toDisk.calls k _ _ l0_0 t271 _ ?side1 ?side2 A19.out).mono ?_
     (case side1 => exact zI (Kd.C_below HR0_0.out HB.out))
     (case side2 => exact HC0_0.out)
     rintro e w34 ⟨v272, rfl, ho0, hb⟩
     refine ⟨_, rfl, ?_⟩
     have HO273 := Aside0.mk (Kd.R_lower ho0 (below_size (zw HB)))
     replace BK267 := zb BK267 hb
     replace BK268 := zb BK268 hb
     replace HB := zs HB hb
     (try clear hb)
     (try clear hb2)
     (try clear hk)
     (try clear hi)
     (try clear ho0)
     refine hK.out _ _ ⟨(blk_cell BK267.out 0).trans rfl, (blk_cell BK268.out 0).trans rfl, (blk_cell BK268.out 1).trans rfl, (blk_cell BK268.out 2).trans rfl, (blk_cell BK268.out 3).trans rfl⟩ (fun hHeld => ?_)
     clear hK K
     refine zM ?_
     refine two_ (i := 3) (j := 8) (Ni := some 30) (Nj := some 6) q15_6 q15_7 rfl rfl rfl rfl (two_of HT_.out (by kernel_rfl)) (by decide) (by decide) (fun K hK => ?_) (fun K hK => ?_)
     ·skip
      refine zH Try.func36 #[.agg #[.int .i64 a1_0, .string a1_1, .string a1_2, .string a1_3]] ?_
      with_reducible refine (laws_toAct.calls a1_0 a1_1 a1_2 a1_3 t274 t275 t276 t277 _ A20.out).mono ?_
      rintro e w35 ⟨rfl, hb⟩
      refine ⟨_, rfl, ?_⟩
      replace HO273 := Aside0.mk (Kd.R_below (zo HO273.out) hb)
      replace BK267 := zb BK267 hb
      replace BK268 := zb BK268 hb
      replace HB := zs HB hb
      (try clear hb)
      (try clear hb2)
      (try clear hk)
      (try clear hi)
      obtain ⟨Ao36, co36, eo36⟩ := Kd.R_slice HO273.out
      (first | subst eo36 | (injection eo36 with f1_ f2_ f3_; have f4_ := f1_.symm; have f5_ := f3_.symm; clear f1_ f2_ f3_; subst f4_; subst f5_))
      refine hK.out _ _ ⟨(blk_cell BK267.out 0).trans rfl, (blk_cell BK268.out 0).trans rfl, (blk_cell BK268.out 1).trans rfl, (blk_cell BK268.out 2).trans rfl, (blk_cell BK268.out 3).trans rfl⟩ (fun hHeld => ?_)
      clear hK K
      refine zM ?_
      refine two_ (i := 4) (j := 8) (Ni := some 31) (Nj := some 6) q15_8 q15_9 rfl rfl rfl rfl (two_of HT_.out (by kernel_rfl)) (by decide) (by decide) (fun K hK => ?_) (fun K hK => ?_)
      ·skip
       refine zH Try.func35 #[.agg #[.slice Ao36 t271.length co36], .agg #[.int .i64 t274, .string t275, .string t276, .string t277]] ?_
       with_reducible refine (spec_DoAct.calls k _ _ t271 t274 t275 t276 t277 t278 t281 _ ?side1 ?side2 A21.out).mono ?_
       (case side1 => exact zI (Kd.R_reads' HO273.out).2.2)
       (case side2 => exact (Kd.R_reads' HO273.out).2.1)
       rintro e w37 ⟨v279, rfl, ho0, hb⟩
       refine ⟨_, rfl, ?_⟩
       have HO280 := Aside0.mk (Kd.R_lower (Kd.R_new' ho0 (Kd.R_lt (zo HO273.out))) (below_size (zw HB)))
       replace HO273 := Aside0.mk (Kd.R_elder' (zo HO273.out) (Kd.R_base ho0) hb)
       replace BK267 := zb BK267 hb
       replace BK268 := zb BK268 hb
       replace HB := zs HB hb
       (try clear hb)
       (try clear hb2)
       (try clear hk)
       (try clear hi)
       (try clear ho0)
       refine hK.out _ _ ⟨(blk_cell BK267.out 0).trans rfl, (blk_cell BK268.out 0).trans rfl, (blk_cell BK268.out 1).trans rfl, (blk_cell BK268.out 2).trans rfl, (blk_cell BK268.out 3).trans rfl⟩ (fun hHeld => ?_)
       clear hK K
       refine zM ?_
       refine zP 5 (some 26) q15_10 HT_ ?_
       refine zP 6 (some 32) q15_11 HT_ ?_
       refine zP 7 (some 33) q15_12 HT_ ?_
       refine one_ (i := 8) (N := some 6) q15_3 rfl rfl (one_of HT_.out (by kernel_rfl)) (by decide) (fun K hK => ?_)
       refine box_step ?hg (N := 6) ?hd (cs := #[.slice none 0 0]) (t := 29) ?hr ?_; (case hd => rfl); (case hg => rfl); (case hr => first | (go_simp; done) | (go_simp; rfl))
       intro gb282 hg w38 hbox hb
       replace HO273 := Aside0.mk (Kd.R_below (zo HO273.out) hb)
       replace HO280 := Aside0.mk (Kd.R_below (zo HO280.out) hb)
       have BK282 := Aside0.mk (hbox)
       have GW282 := zg HB hg
       have GE282 := zg HB hg
       replace HB := zs HB hb
       have NB267_282 := zl BK267 hg
       have NB282_267 := zr BK267 hg
       replace BK267 := zb BK267 hb
       have NB268_282 := zl BK268 hg
       have NB282_268 := zr BK268 hg
       replace BK268 := zb BK268 hb
       clear hb hbox hg
       refine hK.out _ _ ⟨(blk_cell BK267.out 0).trans rfl, (blk_cell BK268.out 0).trans rfl, (blk_cell BK268.out 1).trans rfl, (blk_cell BK268.out 2).trans rfl, (blk_cell BK268.out 3).trans rfl⟩ (fun hHeld => ?_)
       clear hK K
       refine zM ?_
       exact norm_ (by simp only [putAll, Act.put, zA, zB, zC]) (hCont (.slice Ao36 t271.length co36, v279, gb282) _ ⟨hHeld, (zo (Kd.R_mono HO273.out (fun _ hk => hk.2))), (zo (Kd.R_mono HO280.out (fun _ hk => hk.2))), (zk BK267), (zk BK268), (zk BK282), GW282.out, GE282.out, NB267_282.out, NB282_267.out, NB268_282.out, NB282_268.out, (zw HB)⟩)
      ·skip
       refine box_step ?hg (N := 6) ?hd (cs := #[.slice none 0 0]) (t := 29) ?hr ?_; (case hd => rfl); (case hg => rfl); (case hr => first | (go_simp; done) | (go_simp; rfl))
       intro gb282 hg w36 hbox hb
       replace HO273 := Aside0.mk (Kd.R_below (zo HO273.out) hb)
       have BK282 := Aside0.mk (hbox)
       have GW282 := zg HB hg
       have GE282 := zg HB hg
       replace HB := zs HB hb
       have NB267_282 := zl BK267 hg
       have NB282_267 := zr BK267 hg
       replace BK267 := zb BK267 hb
       have NB268_282 := zl BK268 hg
       have NB282_268 := zr BK268 hg
       replace BK268 := zb BK268 hb
       clear hb hbox hg
       obtain ⟨Ao37, co37, eo37⟩ := Kd.R_slice HO273.out
       (first | subst eo37 | (injection eo37 with f1_ f2_ f3_; have f4_ := f1_.symm; have f5_ := f3_.symm; clear f1_ f2_ f3_; subst f4_; subst f5_))
       refine hK.out _ _ ⟨(blk_cell BK267.out 0).trans rfl, (blk_cell BK268.out 0).trans rfl, (blk_cell BK268.out 1).trans rfl, (blk_cell BK268.out 2).trans rfl, (blk_cell BK268.out 3).trans rfl⟩ (fun hHeld => ?_)
       clear hK K
       refine zM ?_
       refine one_ (i := 4) (N := some 31) q15_13 rfl rfl (one_of HT_.out (by kernel_rfl)) (by decide) (fun K hK => ?_)
       refine zH Try.func35 #[.agg #[.slice Ao37 t271.length co37], .agg #[.int .i64 t274, .string t275, .string t276, .string t277]] ?_
       with_reducible refine (spec_DoAct.calls k _ _ t271 t274 t275 t276 t277 t278 t281 _ ?side1 ?side2 A21.out).mono ?_
       (case side1 => exact zI (Kd.R_reads' HO273.out).2.2)
       (case side2 => exact (Kd.R_reads' HO273.out).2.1)
       rintro e w38 ⟨v279, rfl, ho0, hb⟩
       refine ⟨_, rfl, ?_⟩
       have HO280 := Aside0.mk (Kd.R_lower (Kd.R_new' ho0 (Kd.R_lt (zo HO273.out))) (below_size (zw HB)))
       replace HO273 := Aside0.mk (Kd.R_elder' (zo HO273.out) (Kd.R_base ho0) hb)
       replace BK267 := zb BK267 hb
       replace BK268 := zb BK268 hb
       replace BK282 := zb BK282 hb
       replace HB := zs HB hb
       (try clear hb)
       (try clear hb2)
       (try clear hk)
       (try clear hi)
       (try clear ho0)
       refine hK.out _ _ ⟨(blk_cell BK267.out 0).trans rfl, (blk_cell BK268.out 0).trans rfl, (blk_cell BK268.out 1).trans rfl, (blk_cell BK268.out 2).trans rfl, (blk_cell BK268.out 3).trans rfl⟩ (fun hHeld => ?_)
       clear hK K
       refine zM ?_
       refine zP 5 (some 26) q15_14 HT_ ?_
       refine zP 6 (some 32) q15_15 HT_ ?_
       refine zP 7 (some 33) q15_3 HT_ ?_
       exact norm_ (by simp only [putAll, Act.put, zA, zB, zC]) (hCont (.slice Ao37 t271.length co37, v279, gb282) _ ⟨hHeld, (zo (Kd.R_mono HO273.out (fun _ hk => hk.2))), (zo (Kd.R_mono HO280.out (fun _ hk => hk.2))), (zk BK267), (zk BK268), (zk BK282), GW282.out, GE282.out, NB267_282.out, NB282_267.out, NB268_282.out, NB282_268.out, (zw HB)⟩)
     ·skip
      refine box_step ?hg (N := 6) ?hd (cs := #[.slice none 0 0]) (t := 29) ?hr ?_; (case hd => rfl); (case hg => rfl); (case hr => first | (go_simp; done) | (go_simp; rfl))
      intro gb282 hg w35 hbox hb
      replace HO273 := Aside0.mk (Kd.R_below (zo HO273.out) hb)
      have BK282 := Aside0.mk (hbox)
      have GW282 := zg HB hg
      have GE282 := zg HB hg
      replace HB := zs HB hb
      have NB267_282 := zl BK267 hg
      have NB282_267 := zr BK267 hg
      replace BK267 := zb BK267 hb
      have NB268_282 := zl BK268 hg
      have NB282_268 := zr BK268 hg
      replace BK268 := zb BK268 hb
      clear hb hbox hg
      refine hK.out _ _ ⟨(blk_cell BK267.out 0).trans rfl, (blk_cell BK268.out 0).trans rfl, (blk_cell BK268.out 1).trans rfl, (blk_cell BK268.out 2).trans rfl, (blk_cell BK268.out 3).trans rfl⟩ (fun hHeld => ?_)
      clear hK K
      refine zM ?_
      refine one_ (i := 3) (N := some 30) q15_9 rfl rfl (one_of HT_.out (by kernel_rfl)) (by decide) (fun K hK => ?_)
      refine zH Try.func36 #[.agg #[.int .i64 a1_0, .string a1_1, .string a1_2, .string a1_3]] ?_
      with_reducible refine (laws_toAct.calls a1_0 a1_1 a1_2 a1_3 t274 t275 t276 t277 _ A20.out).mono ?_
      rintro e w36 ⟨rfl, hb⟩
      refine ⟨_, rfl, ?_⟩
      replace HO273 := Aside0.mk (Kd.R_below (zo HO273.out) hb)
      replace BK267 := zb BK267 hb
      replace BK268 := zb BK268 hb
      replace BK282 := zb BK282 hb
      replace HB := zs HB hb
      (try clear hb)
      (try clear hb2)
      (try clear hk)
      (try clear hi)
      obtain ⟨Ao37, co37, eo37⟩ := Kd.R_slice HO273.out
      (first | subst eo37 | (injection eo37 with f1_ f2_ f3_; have f4_ := f1_.symm; have f5_ := f3_.symm; clear f1_ f2_ f3_; subst f4_; subst f5_))
      refine hK.out _ _ ⟨(blk_cell BK267.out 0).trans rfl, (blk_cell BK268.out 0).trans rfl, (blk_cell BK268.out 1).trans rfl, (blk_cell BK268.out 2).trans rfl, (blk_cell BK268.out 3).trans rfl⟩ (fun hHeld => ?_)
      clear hK K
      refine zM ?_
      refine one_ (i := 4) (N := some 31) q15_13 rfl rfl (one_of HT_.out (by kernel_rfl)) (by decide) (fun K hK => ?_)
      refine zH Try.func35 #[.agg #[.slice Ao37 t271.length co37], .agg #[.int .i64 t274, .string t275, .string t276, .string t277]] ?_
      with_reducible refine (spec_DoAct.calls k _ _ t271 t274 t275 t276 t277 t278 t281 _ ?side1 ?side2 A21.out).mono ?_
      (case side1 => exact zI (Kd.R_reads' HO273.out).2.2)
      (case side2 => exact (Kd.R_reads' HO273.out).2.1)
      rintro e w38 ⟨v279, rfl, ho0, hb⟩
      refine ⟨_, rfl, ?_⟩
      have HO280 := Aside0.mk (Kd.R_lower (Kd.R_new' ho0 (Kd.R_lt (zo HO273.out))) (below_size (zw HB)))
      replace HO273 := Aside0.mk (Kd.R_elder' (zo HO273.out) (Kd.R_base ho0) hb)
      replace BK267 := zb BK267 hb
      replace BK268 := zb BK268 hb
      replace BK282 := zb BK282 hb
      replace HB := zs HB hb
      (try clear hb)
      (try clear hb2)
      (try clear hk)
      (try clear hi)
      (try clear ho0)
      refine hK.out _ _ ⟨(blk_cell BK267.out 0).trans rfl, (blk_cell BK268.out 0).trans rfl, (blk_cell BK268.out 1).trans rfl, (blk_cell BK268.out 2).trans rfl, (blk_cell BK268.out 3).trans rfl⟩ (fun hHeld => ?_)
      clear hK K
      refine zM ?_
      refine zP 5 (some 26) q15_14 HT_ ?_
      refine zP 6 (some 32) q15_15 HT_ ?_
      refine zP 7 (some 33) q15_3 HT_ ?_
      exact norm_ (by simp only [putAll, Act.put, zA, zB, zC]) (hCont (.slice Ao37 t271.length co37, v279, gb282) _ ⟨hHeld, (zo (Kd.R_mono HO273.out (fun _ hk => hk.2))), (zo (Kd.R_mono HO280.out (fun _ hk => hk.2))), (zk BK267), (zk BK268), (zk BK282), GW282.out, GE282.out, NB267_282.out, NB282_267.out, NB268_282.out, NB282_268.out, (zw HB)⟩)
    ·skip
     refine box_step ?hg (N := 6) ?hd (cs := #[.slice none 0 0]) (t := 29) ?hr ?_; (case hd => rfl); (case hg => rfl); (case hr => first | (go_simp; done) | (go_simp; rfl))
     intro gb282 hg w34 hbox hb
     have BK282 := Aside0.mk (hbox)
     have GW282 := zg HB hg
     have GE282 := zg HB hg
     replace HB := zs HB hb
     have NB267_282 := zl BK267 hg
     have NB282_267 := zr BK267 hg
     replace BK267 := zb BK267 hb
     have NB268_282 := zl BK268 hg
     have NB282_268 := zr BK268 hg
     replace BK268 := zb BK268 hb
     clear hb hbox hg
     refine hK.out _ _ ⟨(blk_cell BK267.out 0).trans rfl, (blk_cell BK268.out 0).trans rfl, (blk_cell BK268.out 1).trans rfl, (blk_cell BK268.out 2).trans rfl, (blk_cell BK268.out 3).trans rfl⟩ (fun hHeld => ?_)
     clear hK K
     refine zM ?_
     refine one_ (i := 1) (N := some 28) q15_7 rfl rfl (one_of HT_.out (by kernel_rfl)) (by decide) (fun K hK => ?_)
     refine zH Try.func14 #[.agg #[.slice A0_0 l0_0.length c0_0]] ?_
     with_reducible refine (laws_toDisk.calls k _ _ l0_0 t271 _ ?side1 ?side2 A19.out).mono ?_
     (case side1 => exact zI (Kd.C_below HR0_0.out HB.out))
     (case side2 => exact HC0_0.out)
     rintro e w35 ⟨v272, rfl, ho0, hb⟩
     refine ⟨_, rfl, ?_⟩
     have HO273 := Aside0.mk (Kd.R_lower ho0 (below_size (zw HB)))
     replace BK267 := zb BK267 hb
     replace BK268 := zb BK268 hb
     replace BK282 := zb BK282 hb
     replace HB := zs HB hb
     (try clear hb)
     (try clear hb2)
     (try clear hk)
     (try clear hi)
     (try clear ho0)
     refine hK.out _ _ ⟨(blk_cell BK267.out 0).trans rfl, (blk_cell BK268.out 0).trans rfl, (blk_cell BK268.out 1).trans rfl, (blk_cell BK268.out 2).trans rfl, (blk_cell BK268.out 3).trans rfl⟩ (fun hHeld => ?_)
     clear hK K
     refine zM ?_
     refine one_ (i := 3) (N := some 30) q15_9 rfl rfl (one_of HT_.out (by kernel_rfl)) (by decide) (fun K hK => ?_)
     refine zH Try.func36 #[.agg #[.int .i64 a1_0, .string a1_1, .string a1_2, .string a1_3]] ?_
     with_reducible refine (laws_toAct.calls a1_0 a1_1 a1_2 a1_3 t274 t275 t276 t277 _ A20.out).mono ?_
     rintro e w36 ⟨rfl, hb⟩
     refine ⟨_, rfl, ?_⟩
     replace HO273 := Aside0.mk (Kd.R_below (zo HO273.out) hb)
     replace BK267 := zb BK267 hb
     replace BK268 := zb BK268 hb
     replace BK282 := zb BK282 hb
     replace HB := zs HB hb
     (try clear hb)
     (try clear hb2)
     (try clear hk)
     (try clear hi)
     obtain ⟨Ao37, co37, eo37⟩ := Kd.R_slice HO273.out
     (first | subst eo37 | (injection eo37 with f1_ f2_ f3_; have f4_ := f1_.symm; have f5_ := f3_.symm; clear f1_ f2_ f3_; subst f4_; subst f5_))
     refine hK.out _ _ ⟨(blk_cell BK267.out 0).trans rfl, (blk_cell BK268.out 0).trans rfl, (blk_cell BK268.out 1).trans rfl, (blk_cell BK268.out 2).trans rfl, (blk_cell BK268.out 3).trans rfl⟩ (fun hHeld => ?_)
     clear hK K
     refine zM ?_
     refine one_ (i := 4) (N := some 31) q15_13 rfl rfl (one_of HT_.out (by kernel_rfl)) (by decide) (fun K hK => ?_)
     refine zH Try.func35 #[.agg #[.slice Ao37 t271.length co37], .agg #[.int .i64 t274, .string t275, .string t276, .string t277]] ?_
     with_reducible refine (spec_DoAct.calls k _ _ t271 t274 t275 t276 t277 t278 t281 _ ?side1 ?side2 A21.out).mono ?_
     (case side1 => exact zI (Kd.R_reads' HO273.out).2.2)
     (case side2 => exact (Kd.R_reads' HO273.out).2.1)
     rintro e w38 ⟨v279, rfl, ho0, hb⟩
     refine ⟨_, rfl, ?_⟩
     have HO280 := Aside0.mk (Kd.R_lower (Kd.R_new' ho0 (Kd.R_lt (zo HO273.out))) (below_size (zw HB)))
     replace HO273 := Aside0.mk (Kd.R_elder' (zo HO273.out) (Kd.R_base ho0) hb)
     replace BK267 := zb BK267 hb
     replace BK268 := zb BK268 hb
     replace BK282 := zb BK282 hb
     replace HB := zs HB hb
     (try clear hb)
     (try clear hb2)
     (try clear hk)
     (try clear hi)
     (try clear ho0)
     refine hK.out _ _ ⟨(blk_cell BK267.out 0).trans rfl, (blk_cell BK268.out 0).trans rfl, (blk_cell BK268.out 1).trans rfl, (blk_cell BK268.out 2).trans rfl, (blk_cell BK268.out 3).trans rfl⟩ (fun hHeld => ?_)
     clear hK K
     refine zM ?_
     refine zP 5 (some 26) q15_14 HT_ ?_
     refine zP 6 (some 32) q15_15 HT_ ?_
     refine zP 7 (some 33) q15_3 HT_ ?_
     exact norm_ (by simp only [putAll, Act.put, zA, zB, zC]) (hCont (.slice Ao37 t271.length co37, v279, gb282) _ ⟨hHeld, (zo (Kd.R_mono HO273.out (fun _ hk => hk.2))), (zo (Kd.R_mono HO280.out (fun _ hk => hk.2))), (zk BK267), (zk BK268), (zk BK282), GW282.out, GE282.out, NB267_282.out, NB282_267.out, NB268_282.out, NB282_268.out, (zw HB)⟩)
   rintro ⟨v272, v279, gb282⟩ w39 ⟨hS_, h0_, h1_, h2_, h3_, h4_, h5_, h6_, h7_, h8_, h9_, h10_, h11_⟩
   have n0_ : Aside0 (Kd.R k45 45 w39 w.heap.size (fun k_ => some k_ ≠ (v279 : Value).ownBlock) v272 t271) := ⟨h0_⟩
   have n1_ : Aside0 (Kd.R k45 45 w39 w.heap.size (fun k_ => some k_ ≠ (v272 : Value).ownBlock) v279 t278) := ⟨h1_⟩
   have n2_ : Aside0 (w39.heap[gb267]? = some (.cells #[.slice A0_0 l0_0.length c0_0] 24 (0, 0))) := ⟨h2_⟩
   have n3_ : Aside0 (w39.heap[gb268]? = some (.cells #[.int .i64 a1_0, .string a1_1, .string a1_2, .string a1_3] 52 (0, 0))) := ⟨h3_⟩
   have n4_ : Aside0 (w39.heap[gb282]? = some (.cells #[.slice none 0 0] 29 (0, 0))) := ⟨h4_⟩
   have n5_ : Aside0 (w.heap.size ≤ gb282) := ⟨h5_⟩
   have n6_ : Aside0 (w.heap.size ≤ gb282) := ⟨h6_⟩
   have n7_ : Aside0 (gb267 ≠ gb282) := ⟨h7_⟩
   have n8_ : Aside0 (gb282 ≠ gb267) := ⟨h8_⟩
   have n9_ : Aside0 (gb268 ≠ gb282) := ⟨h9_⟩
   have n10_ : Aside0 (gb282 ≠ gb268) := ⟨h10_⟩
   have n11_ : Aside0 (Below w.heap.size w w39) := ⟨h11_⟩
   clear BK267
   clear BK268
   clear HB
   clear h0_ h1_ h2_ h3_ h4_ h5_ h6_ h7_ h8_ h9_ h10_ h11_
   have HO273 := n0_
   have HO280 := n1_
   have BK267 := n2_
   have BK268 := n3_
   have BK282 := n4_
   have GW282 := n5_
   have GE282 := n6_
   have NB267_282 := n7_
   have NB282_267 := n8_
   have NB268_282 := n9_
   have NB282_268 := n10_
   have HB := n11_
   clear n0_ n1_ n2_ n3_ n4_ n5_ n6_ n7_ n8_ n9_ n10_ n11_
   have hHeld : w39.cell? ⟨gb267, 0, none⟩ = some (.slice A0_0 l0_0.length c0_0) ∧ w39.cell? ⟨gb268, 0, none⟩ = some (.int .i64 a1_0) ∧ w39.cell? ⟨gb268, 1, none⟩ = some (.string a1_1) ∧ w39.cell? ⟨gb268, 2, none⟩ = some (.string a1_2) ∧ w39.cell? ⟨gb268, 3, none⟩ = some (.string a1_3) := hS_
   obtain ⟨Ao40, co40, eo40⟩ := Kd.R_slice HO280.out
   (first | subst eo40 | (injection eo40 with f1_ f2_ f3_; have f4_ := f1_.symm; have f5_ := f3_.symm; clear f1_ f2_ f3_; subst f4_; subst f5_))
   refine norm_ (a' := ?_) ?_ ?_
   rotate_left
   ·simp only [putAll, Act.put, zA, zB, zC]
    rfl
   refine one_ (i := 9) (N := none) q15_16 rfl rfl (one_of HT_.out (by kernel_rfl)) (by decide) (fun K hK => ?_)
   have hs41 : w39.cell? ⟨gb282, 0, none⟩ = some (.slice none 0 0) := (blk_cell BK282.out 0).trans rfl
   have hfs41 := blk_frozen BK282.out 0
   have hns41_0 := NB267_282.out
   have hns41_1 := NB268_282.out
   have hms41_0 := NB282_267.out
   have hms41_1 := NB282_268.out
   refine skip_ (w1 := ?_) (by rfl) rfl ?_ ?_
   rotate_left
   ·go_simp
    rfl
   refine hK.out _ _ ⟨((cell_far (p := ⟨gb282, _, none⟩) NB267_282.out _).trans (hHeld.1)), ((cell_far (p := ⟨gb282, _, none⟩) NB268_282.out _).trans (hHeld.2.1)), ((cell_far (p := ⟨gb282, _, none⟩) NB268_282.out _).trans (hHeld.2.2.1)), ((cell_far (p := ⟨gb282, _, none⟩) NB268_282.out _).trans (hHeld.2.2.2.1)), ((cell_far (p := ⟨gb282, _, none⟩) NB268_282.out _).trans (hHeld.2.2.2.2))⟩ (fun hHeld => ?_)
   clear hK K
   refine zP 10 (some 7) q15_17 HT_ ?_
   refine done_ (done_of HT_.out (by kernel_rfl)) ?_
   have hnb42 := NB267_282.out
   have hnc42 := NB282_267.out
   have hcz43_0 : w39.cell? ⟨gb267, 0, none⟩ = some (.slice A0_0 l0_0.length c0_0) := (blk_cell BK267.out 0).trans rfl
   have hfz43_0 := blk_frozen BK267.out 0
   try go_wp2_with (first | ((with_reducible refine gate_callee (f := 14) rfl ?_); refine zG (some 35) Try.func14 #[.agg #[.slice A0_0 l0_0.length c0_0]] ?_; (with_reducible refine (laws_toDisk.calls k _ _ l0_0 t283 _ ?side1 ?side2 A22.out).mono ?_); (case side1 => exact Kd.C_below HR0_0.out (zw HB)); (case side2 => exact HC0_0.out); rintro e w44 ⟨v284, rfl, ho0, hb⟩; refine ⟨_, rfl, ?_⟩; have HO285 := Aside0.mk (Kd.R_lower (Kd.R_new' (Kd.R_new' ho0 (Kd.R_lt (zo ((Kd.R_mono (Kd.R_far (p := ⟨gb282, 0, none⟩) (Kd.R_types HO273.out BK282.out (by decide)) (fun _ hk => hk.2) (.slice Ao40 t278.length co40)) (fun _ h_ => h_.1)))))) (Kd.R_lt (zo ((Kd.R_mono (Kd.R_far (p := ⟨gb282, 0, none⟩) (Kd.R_types HO280.out BK282.out (by decide)) (fun _ hk => hk.2) (.slice Ao40 t278.length co40)) (fun _ h_ => h_.1)))))) (below_size (zw HB))); replace HO273 := Aside0.mk (Kd.R_elder' (zo ((Kd.R_mono (Kd.R_far (p := ⟨gb282, 0, none⟩) (Kd.R_types HO273.out BK282.out (by decide)) (fun _ hk => hk.2) (.slice Ao40 t278.length co40)) (fun _ h_ => h_.1)))) (Kd.R_base ho0) hb); replace HO280 := Aside0.mk (Kd.R_elder' (zo ((Kd.R_mono (Kd.R_far (p := ⟨gb282, 0, none⟩) (Kd.R_types HO280.out BK282.out (by decide)) (fun _ hk => hk.2) (.slice Ao40 t278.length co40)) (fun _ h_ => h_.1)))) (Kd.R_base ho0) hb); replace BK267 := zbf BK267 hb; replace BK268 := zbf BK268 hb; replace BK282 := Aside0.mk (blk_below (g := gb282) (o := .cells #[.slice Ao40 t278.length co40] 29 (0, 0)) (by (with_reducible repeat (first | refine blk_drewN ?_ _ | refine blk_drew ?_ | refine blk_alloc ?_ _)); refine blk_put (cs := #[.slice none 0 0]) ?_ 0 _ rfl; (with_reducible repeat (first | refine blk_drewN ?_ _ | refine blk_drew ?_ | refine blk_alloc ?_ _)); exact BK282.out) hb); replace HB := zs HB hb; clear ho0 hb) | ((with_reducible refine gate_dst (N := 8) rfl ?_); refine zx (N := 8) (cs := #[.slice none 0 0]) (t := 29) ?_; intro gb286 hg w45 hbox hb; replace HO273 := Aside0.mk (Kd.R_below (zo HO273.out) hb); replace HO280 := Aside0.mk (Kd.R_below (zo HO280.out) hb); replace HO285 := Aside0.mk (Kd.R_below (zo HO285.out) hb); have BK286 := Aside0.mk (hbox); have GW286 := zg HB hg; have GE286 := zg HB hg; replace HB := zs HB hb; have NB267_286 := zl BK267 hg; have NB286_267 := zr BK267 hg; replace BK267 := zb BK267 hb; have NB268_286 := zl BK268 hg; have NB286_268 := zr BK268 hg; replace BK268 := zb BK268 hb; have NB282_286 := zl BK282 hg; have NB286_282 := zr BK282 hg; replace BK282 := zb BK282 hb; clear hb hbox hg; obtain ⟨Ao46, co46, eo46⟩ := Kd.R_slice HO285.out; subst eo46; have hnb47 := NB286_267.out; have hnc47 := NB267_286.out; have hnb48 := NB286_268.out; have hnc48 := NB268_286.out; have hnb49 := NB286_282.out; have hnc49 := NB282_286.out; have hcz50_0 : w45.cell? ⟨gb286, 0, none⟩ = some (.slice none 0 0) := (blk_cell BK286.out 0).trans rfl; have hfz50_0 := blk_frozen BK286.out 0))
   have n0_ : Aside0 (Kd.R k45 45 (w45.setCell ⟨gb286, 0, none⟩ (.slice Ao46 t283.length co46)) w.heap.size (fun k_ => some k_ ≠ (.slice Ao40 t278.length co40 : Value).ownBlock ∧ some k_ ≠ (.slice Ao46 t283.length co46 : Value).ownBlock) v272 t271) := ⟨zo (Kd.R_mono (Kd.R_far (p := ⟨gb286, 0, none⟩) (Kd.R_types HO273.out BK286.out (by decide)) (fun _ hk => hk.2) (.slice Ao46 t283.length co46)) (fun _ hk => ⟨hk.1.1, hk.1.2⟩))⟩
   have n1_ : Aside0 (Kd.R k45 45 (w45.setCell ⟨gb286, 0, none⟩ (.slice Ao46 t283.length co46)) w.heap.size (fun k_ => some k_ ≠ (v272 : Value).ownBlock ∧ some k_ ≠ (.slice Ao46 t283.length co46 : Value).ownBlock) (.slice Ao40 t278.length co40) t278) := ⟨zo (Kd.R_mono (Kd.R_far (p := ⟨gb286, 0, none⟩) (Kd.R_types HO280.out BK286.out (by decide)) (fun _ hk => hk.2) (.slice Ao46 t283.length co46)) (fun _ hk => ⟨hk.1.1, hk.1.2⟩))⟩
   have n2_ : Aside0 (Kd.R k45 45 (w45.setCell ⟨gb286, 0, none⟩ (.slice Ao46 t283.length co46)) w.heap.size (fun k_ => some k_ ≠ (v272 : Value).ownBlock ∧ some k_ ≠ (.slice Ao40 t278.length co40 : Value).ownBlock) (.slice Ao46 t283.length co46) t283) := ⟨zo (Kd.R_mono (Kd.R_far (p := ⟨gb286, 0, none⟩) (Kd.R_types HO285.out BK286.out (by decide)) (fun _ hk => hk.2) (.slice Ao46 t283.length co46)) (fun _ hk => ⟨hk.1.1.2, hk.1.2⟩))⟩
   have n3_ : Aside0 ((w45.setCell ⟨gb286, 0, none⟩ (.slice Ao46 t283.length co46)).heap[gb267]? = some (.cells #[.slice A0_0 l0_0.length c0_0] 24 (0, 0))) := ⟨zkf BK267⟩
   have n4_ : Aside0 ((w45.setCell ⟨gb286, 0, none⟩ (.slice Ao46 t283.length co46)).heap[gb268]? = some (.cells #[.int .i64 a1_0, .string a1_1, .string a1_2, .string a1_3] 52 (0, 0))) := ⟨zkf BK268⟩
   have n5_ : Aside0 ((w45.setCell ⟨gb286, 0, none⟩ (.slice Ao46 t283.length co46)).heap[gb282]? = some (.cells #[.slice Ao40 t278.length co40] 29 (0, 0))) := ⟨zkf BK282⟩
   have n6_ : Aside0 ((w45.setCell ⟨gb286, 0, none⟩ (.slice Ao46 t283.length co46)).heap[gb286]? = some (.cells #[.slice Ao46 t283.length co46] 29 (0, 0))) := ⟨by (with_reducible repeat (first | refine blk_drewN ?_ _ | refine blk_drew ?_ | refine blk_alloc ?_ _)); refine blk_put (cs := #[.slice none 0 0]) ?_ 0 _ rfl; (with_reducible repeat (first | refine blk_drewN ?_ _ | refine blk_drew ?_ | refine blk_alloc ?_ _)); exact BK286.out⟩
   have n7_ : Aside0 (Below w.heap.size w (w45.setCell ⟨gb286, 0, none⟩ (.slice Ao46 t283.length co46))) := ⟨zw HB⟩
   (try clear HO273)
   (try clear HO280)
   (try clear HO285)
   (try clear BK267)
   (try clear BK268)
   (try clear BK282)
   (try clear BK286)
   (try clear HB)
   generalize (w45.setCell ⟨gb286, 0, none⟩ (.slice Ao46 t283.length co46)) = w51 at n0_ n1_ n2_ n3_ n4_ n5_ n6_ n7_ ⊢
   have HO273 := n0_
   have HO280 := n1_
   have HO285 := n2_
   have BK267 := n3_
   have BK268 := n4_
   have BK282 := n5_
   have BK286 := n6_
   have HB := n7_
   clear n0_ n1_ n2_ n3_ n4_ n5_ n6_ n7_
   replace HO273 := Aside0.mk (Kd.R_drew HO273.out)
   replace HO280 := Aside0.mk (Kd.R_drew HO280.out)
   replace HO285 := Aside0.mk (Kd.R_drew HO285.out)
   replace BK267 := Aside0.mk (blk_drew BK267.out)
   replace BK268 := Aside0.mk (blk_drew BK268.out)
   replace BK282 := Aside0.mk (blk_drew BK282.out)
   replace BK286 := Aside0.mk (blk_drew BK286.out)
   replace HB := Aside0.mk (below_drew1 HB.out)
   refine start_ (n := 10) (S := fun w' => w'.cell? ⟨gb286, 0, none⟩ = some (.slice Ao46 t283.length co46) ∧ w'.cell? ⟨gb268, 0, none⟩ = some (.int .i64 a1_0) ∧ w'.cell? ⟨gb268, 1, none⟩ = some (.string a1_1) ∧ w'.cell? ⟨gb268, 2, none⟩ = some (.string a1_2) ∧ w'.cell? ⟨gb268, 3, none⟩ = some (.string a1_3)) (ds := []) q15_18 (by kernel_rfl) rfl rfl ⟨(blk_cell BK286.out 0).trans rfl, (blk_cell BK268.out 0).trans rfl, (blk_cell BK268.out 1).trans rfl, (blk_cell BK268.out 2).trans rfl, (blk_cell BK268.out 3).trans rfl⟩ (fun hHeld => ?_); refine with_tabW laws_FnExactDoAct.tab10 laws_FnExactDoAct.bits10 (fun HT_ HW_ => ?_)
   generalize w51.drew = w52 at HO273 HO280 HO285 BK267 BK268 BK282 BK286 HB hHeld ⊢
   refine zT 0 (some 37) q15_19 HT_ HW_ hHeld ?_
   refine zT 1 (some 38) q15_20 HT_ HW_ hHeld ?_
   refine join_ (σ := Value × Nat) 2 q15_21 (fun s_ => [(39, .agg #[.int .i64 t287, .string t288, .string t289, .string t290]), (40, .tuple #[.agg #[s_.1], .bool t294]), (9, .pointer (some ⟨s_.2, 0, none⟩)), (36, .tuple #[.agg #[s_.1], .bool t294]), (41, .agg #[s_.1]), (42, .bool t294)]) (fun s_ w' => (w'.cell? ⟨gb286, 0, none⟩ = some (.slice Ao46 t283.length co46) ∧ w'.cell? ⟨gb268, 0, none⟩ = some (.int .i64 a1_0) ∧ w'.cell? ⟨gb268, 1, none⟩ = some (.string a1_1) ∧ w'.cell? ⟨gb268, 2, none⟩ = some (.string a1_2) ∧ w'.cell? ⟨gb268, 3, none⟩ = some (.string a1_3)) ∧ (Kd.R k45 45 w' w.heap.size (fun k_ => some k_ ≠ (.slice Ao40 t278.length co40 : Value).ownBlock ∧ some k_ ≠ (.slice Ao46 t283.length co46 : Value).ownBlock ∧ some k_ ≠ (s_.1 : Value).ownBlock) v272 t271) ∧ (Kd.R k45 45 w' w.heap.size (fun k_ => some k_ ≠ (v272 : Value).ownBlock ∧ some k_ ≠ (.slice Ao46 t283.length co46 : Value).ownBlock ∧ some k_ ≠ (s_.1 : Value).ownBlock) (.slice Ao40 t278.length co40) t278) ∧ (Kd.R k45 45 w' w.heap.size (fun k_ => some k_ ≠ (v272 : Value).ownBlock ∧ some k_ ≠ (.slice Ao40 t278.length co40 : Value).ownBlock ∧ some k_ ≠ (s_.1 : Value).ownBlock) (.slice Ao46 t283.length co46) t283) ∧ (Kd.R k45 45 w' w.heap.size (fun k_ => some k_ ≠ (v272 : Value).ownBlock ∧ some k_ ≠ (.slice Ao40 t278.length co40 : Value).ownBlock ∧ some k_ ≠ (.slice Ao46 t283.length co46 : Value).ownBlock) s_.1 t291) ∧ (w'.heap[gb267]? = some (.cells #[.slice A0_0 l0_0.length c0_0] 24 (0, 0))) ∧ (w'.heap[gb268]? = some (.cells #[.int .i64 a1_0, .string a1_1, .string a1_2, .string a1_3] 52 (0, 0))) ∧ (w'.heap[gb282]? = some (.cells #[.slice Ao40 t278.length co40] 29 (0, 0))) ∧ (w'.heap[gb286]? = some (.cells #[.slice Ao46 t283.length co46] 29 (0, 0))) ∧ (w'.heap[s_.2]? = some (.cells #[.slice none 0 0] 29 (0, 0))) ∧ (w.heap.size ≤ s_.2) ∧ (w.heap.size ≤ s_.2) ∧ (gb267 ≠ s_.2) ∧ (s_.2 ≠ gb267) ∧ (gb268 ≠ s_.2) ∧ (s_.2 ≠ gb268) ∧ (gb282 ≠ s_.2) ∧ (s_.2 ≠ gb282) ∧ (gb286 ≠ s_.2) ∧ (s_.2 ≠ gb286) ∧ (Below w.heap.size w w')) ?_ ?_
   rotate_left
   ·intro hCont
    refine two_ (i := 2) (j := 7) (Ni := some 39) (Nj := some 9) q15_22 q15_23 rfl rfl rfl rfl (two_of HT_.out (by kernel_rfl)) (by decide) (by decide) (fun K hK => ?_) (fun K hK => ?_)
    ·skip
     refine zH Try.func36 #[.agg #[.int .i64 a1_0, .string a1_1, .string a1_2, .string a1_3]] ?_
     with_reducible refine (laws_toAct.calls a1_0 a1_1 a1_2 a1_3 t287 t288 t289 t290 _ A23.out).mono ?_
     rintro e w53 ⟨rfl, hb⟩
     refine ⟨_, rfl, ?_⟩
     replace HO273 := Aside0.mk (Kd.R_below (zo HO273.out) hb)
     replace HO280 := Aside0.mk (Kd.R_below (zo HO280.out) hb)
     replace HO285 := Aside0.mk (Kd.R_below (zo HO285.out) hb)
     replace BK267 := zb BK267 hb
     replace BK268 := zb BK268 hb
     replace BK282 := zb BK282 hb
     replace BK286 := zb BK286 hb
     replace HB := zs HB hb
     (try clear hb)
     (try clear hb2)
     (try clear hk)
     (try clear hi)
     refine hK.out _ _ ⟨(blk_cell BK286.out 0).trans rfl, (blk_cell BK268.out 0).trans rfl, (blk_cell BK268.out 1).trans rfl, (blk_cell BK268.out 2).trans rfl, (blk_cell BK268.out 3).trans rfl⟩ (fun hHeld => ?_)
     clear hK K
     refine zM ?_
     refine two_ (i := 3) (j := 7) (Ni := some 40) (Nj := some 9) q15_24 q15_25 rfl rfl rfl rfl (two_of HT_.out (by kernel_rfl)) (by decide) (by decide) (fun K hK => ?_) (fun K hK => ?_)
     ·skip
      refine zH Try.func37 #[.agg #[.slice Ao46 t283.length co46], .agg #[.int .i64 t287, .string t288, .string t289, .string t290]] ?_
      with_reducible refine (impl_DoAct.calls k _ _ t283 t287 t288 t289 t290 t291 t294 _ ?side1 ?side2 A24.out).mono ?_
      (case side1 => exact zI (Kd.R_reads' HO285.out).2.2)
      (case side2 => exact (Kd.R_reads' HO285.out).2.1)
      rintro e w54 ⟨v292, rfl, ho0, hb⟩
      refine ⟨_, rfl, ?_⟩
      have HO293 := Aside0.mk (Kd.R_lower (Kd.R_new' (Kd.R_new' (Kd.R_new' ho0 (Kd.R_lt (zo HO273.out))) (Kd.R_lt (zo HO280.out))) (Kd.R_lt (zo HO285.out))) (below_size (zw HB)))
      replace HO273 := Aside0.mk (Kd.R_elder' (zo HO273.out) (Kd.R_base ho0) hb)
      replace HO280 := Aside0.mk (Kd.R_elder' (zo HO280.out) (Kd.R_base ho0) hb)
      replace HO285 := Aside0.mk (Kd.R_elder' (zo HO285.out) (Kd.R_base ho0) hb)
      replace BK267 := zb BK267 hb
      replace BK268 := zb BK268 hb
      replace BK282 := zb BK282 hb
      replace BK286 := zb BK286 hb
      replace HB := zs HB hb
      (try clear hb)
      (try clear hb2)
      (try clear hk)
      (try clear hi)
      (try clear ho0)
      refine hK.out _ _ ⟨(blk_cell BK286.out 0).trans rfl, (blk_cell BK268.out 0).trans rfl, (blk_cell BK268.out 1).trans rfl, (blk_cell BK268.out 2).trans rfl, (blk_cell BK268.out 3).trans rfl⟩ (fun hHeld => ?_)
      clear hK K
      refine zM ?_
      refine zP 4 (some 36) q15_26 HT_ ?_
      refine zP 5 (some 41) q15_27 HT_ ?_
      refine zP 6 (some 42) q15_28 HT_ ?_
      refine one_ (i := 7) (N := some 9) q15_21 rfl rfl (one_of HT_.out (by kernel_rfl)) (by decide) (fun K hK => ?_)
      refine box_step ?hg (N := 9) ?hd (cs := #[.slice none 0 0]) (t := 29) ?hr ?_; (case hd => rfl); (case hg => rfl); (case hr => first | (go_simp; done) | (go_simp; rfl))
      intro gb295 hg w55 hbox hb
      replace HO273 := Aside0.mk (Kd.R_below (zo HO273.out) hb)
      replace HO280 := Aside0.mk (Kd.R_below (zo HO280.out) hb)
      replace HO285 := Aside0.mk (Kd.R_below (zo HO285.out) hb)
      replace HO293 := Aside0.mk (Kd.R_below (zo HO293.out) hb)
      have BK295 := Aside0.mk (hbox)
      have GW295 := zg HB hg
      have GE295 := zg HB hg
      replace HB := zs HB hb
      have NB267_295 := zl BK267 hg
      have NB295_267 := zr BK267 hg
      replace BK267 := zb BK267 hb
      have NB268_295 := zl BK268 hg
      have NB295_268 := zr BK268 hg
      replace BK268 := zb BK268 hb
      have NB282_295 := zl BK282 hg
      have NB295_282 := zr BK282 hg
      replace BK282 := zb BK282 hb
      have NB286_295 := zl BK286 hg
      have NB295_286 := zr BK286 hg
      replace BK286 := zb BK286 hb
      clear hb hbox hg
      refine hK.out _ _ ⟨(blk_cell BK286.out 0).trans rfl, (blk_cell BK268.out 0).trans rfl, (blk_cell BK268.out 1).trans rfl, (blk_cell BK268.out 2).trans rfl, (blk_cell BK268.out 3).trans rfl⟩ (fun hHeld => ?_)
      clear hK K
      refine zM ?_
      exact norm_ (by simp only [putAll, Act.put, zA, zB, zC]) (hCont (v292, gb295) _ ⟨hHeld, (zo (Kd.R_mono HO273.out (fun _ hk => ⟨hk.1.1, ⟨hk.1.2, hk.2⟩⟩))), (zo (Kd.R_mono HO280.out (fun _ hk => ⟨hk.1.1, ⟨hk.1.2, hk.2⟩⟩))), (zo (Kd.R_mono HO285.out (fun _ hk => ⟨hk.1.1, ⟨hk.1.2, hk.2⟩⟩))), (zo (Kd.R_mono HO293.out (fun _ hk => ⟨hk.1.1.2, ⟨hk.1.2, hk.2⟩⟩))), (zk BK267), (zk BK268), (zk BK282), (zk BK286), (zk BK295), GW295.out, GE295.out, NB267_295.out, NB295_267.out, NB268_295.out, NB295_268.out, NB282_295.out, NB295_282.out, NB286_295.out, NB295_286.out, (zw HB)⟩)
     ·skip
      refine box_step ?hg (N := 9) ?hd (cs := #[.slice none 0 0]) (t := 29) ?hr ?_; (case hd => rfl); (case hg => rfl); (case hr => first | (go_simp; done) | (go_simp; rfl))
      intro gb295 hg w54 hbox hb
      replace HO273 := Aside0.mk (Kd.R_below (zo HO273.out) hb)
      replace HO280 := Aside0.mk (Kd.R_below (zo HO280.out) hb)
      replace HO285 := Aside0.mk (Kd.R_below (zo HO285.out) hb)
      have BK295 := Aside0.mk (hbox)
      have GW295 := zg HB hg
      have GE295 := zg HB hg
      replace HB := zs HB hb
      have NB267_295 := zl BK267 hg
      have NB295_267 := zr BK267 hg
      replace BK267 := zb BK267 hb
      have NB268_295 := zl BK268 hg
      have NB295_268 := zr BK268 hg
      replace BK268 := zb BK268 hb
      have NB282_295 := zl BK282 hg
      have NB295_282 := zr BK282 hg
      replace BK282 := zb BK282 hb
      have NB286_295 := zl BK286 hg
      have NB295_286 := zr BK286 hg
      replace BK286 := zb BK286 hb
      clear hb hbox hg
      refine hK.out _ _ ⟨(blk_cell BK286.out 0).trans rfl, (blk_cell BK268.out 0).trans rfl, (blk_cell BK268.out 1).trans rfl, (blk_cell BK268.out 2).trans rfl, (blk_cell BK268.out 3).trans rfl⟩ (fun hHeld => ?_)
      clear hK K
      refine zM ?_
      refine one_ (i := 3) (N := some 40) q15_29 rfl rfl (one_of HT_.out (by kernel_rfl)) (by decide) (fun K hK => ?_)
      refine zH Try.func37 #[.agg #[.slice Ao46 t283.length co46], .agg #[.int .i64 t287, .string t288, .string t289, .string t290]] ?_
      with_reducible refine (impl_DoAct.calls k _ _ t283 t287 t288 t289 t290 t291 t294 _ ?side1 ?side2 A24.out).mono ?_
      (case side1 => exact zI (Kd.R_reads' HO285.out).2.2)
      (case side2 => exact (Kd.R_reads' HO285.out).2.1)
      rintro e w55 ⟨v292, rfl, ho0, hb⟩
      refine ⟨_, rfl, ?_⟩
      have HO293 := Aside0.mk (Kd.R_lower (Kd.R_new' (Kd.R_new' (Kd.R_new' ho0 (Kd.R_lt (zo HO273.out))) (Kd.R_lt (zo HO280.out))) (Kd.R_lt (zo HO285.out))) (below_size (zw HB)))
      replace HO273 := Aside0.mk (Kd.R_elder' (zo HO273.out) (Kd.R_base ho0) hb)
      replace HO280 := Aside0.mk (Kd.R_elder' (zo HO280.out) (Kd.R_base ho0) hb)
      replace HO285 := Aside0.mk (Kd.R_elder' (zo HO285.out) (Kd.R_base ho0) hb)
      replace BK267 := zb BK267 hb
      replace BK268 := zb BK268 hb
      replace BK282 := zb BK282 hb
      replace BK286 := zb BK286 hb
      replace BK295 := zb BK295 hb
      replace HB := zs HB hb
      (try clear hb)
      (try clear hb2)
      (try clear hk)
      (try clear hi)
      (try clear ho0)
      refine hK.out _ _ ⟨(blk_cell BK286.out 0).trans rfl, (blk_cell BK268.out 0).trans rfl, (blk_cell BK268.out 1).trans rfl, (blk_cell BK268.out 2).trans rfl, (blk_cell BK268.out 3).trans rfl⟩ (fun hHeld => ?_)
      clear hK K
      refine zM ?_
      refine zP 4 (some 36) q15_30 HT_ ?_
      refine zP 5 (some 41) q15_31 HT_ ?_
      refine zP 6 (some 42) q15_21 HT_ ?_
      exact norm_ (by simp only [putAll, Act.put, zA, zB, zC]) (hCont (v292, gb295) _ ⟨hHeld, (zo (Kd.R_mono HO273.out (fun _ hk => ⟨hk.1.1, ⟨hk.1.2, hk.2⟩⟩))), (zo (Kd.R_mono HO280.out (fun _ hk => ⟨hk.1.1, ⟨hk.1.2, hk.2⟩⟩))), (zo (Kd.R_mono HO285.out (fun _ hk => ⟨hk.1.1, ⟨hk.1.2, hk.2⟩⟩))), (zo (Kd.R_mono HO293.out (fun _ hk => ⟨hk.1.1.2, ⟨hk.1.2, hk.2⟩⟩))), (zk BK267), (zk BK268), (zk BK282), (zk BK286), (zk BK295), GW295.out, GE295.out, NB267_295.out, NB295_267.out, NB268_295.out, NB295_268.out, NB282_295.out, NB295_282.out, NB286_295.out, NB295_286.out, (zw HB)⟩)
    ·skip
     refine box_step ?hg (N := 9) ?hd (cs := #[.slice none 0 0]) (t := 29) ?hr ?_; (case hd => rfl); (case hg => rfl); (case hr => first | (go_simp; done) | (go_simp; rfl))
     intro gb295 hg w53 hbox hb
     replace HO273 := Aside0.mk (Kd.R_below (zo HO273.out) hb)
     replace HO280 := Aside0.mk (Kd.R_below (zo HO280.out) hb)
     replace HO285 := Aside0.mk (Kd.R_below (zo HO285.out) hb)
     have BK295 := Aside0.mk (hbox)
     have GW295 := zg HB hg
     have GE295 := zg HB hg
     replace HB := zs HB hb
     have NB267_295 := zl BK267 hg
     have NB295_267 := zr BK267 hg
     replace BK267 := zb BK267 hb
     have NB268_295 := zl BK268 hg
     have NB295_268 := zr BK268 hg
     replace BK268 := zb BK268 hb
     have NB282_295 := zl BK282 hg
     have NB295_282 := zr BK282 hg
     replace BK282 := zb BK282 hb
     have NB286_295 := zl BK286 hg
     have NB295_286 := zr BK286 hg
     replace BK286 := zb BK286 hb
     clear hb hbox hg
     refine hK.out _ _ ⟨(blk_cell BK286.out 0).trans rfl, (blk_cell BK268.out 0).trans rfl, (blk_cell BK268.out 1).trans rfl, (blk_cell BK268.out 2).trans rfl, (blk_cell BK268.out 3).trans rfl⟩ (fun hHeld => ?_)
     clear hK K
     refine zM ?_
     refine one_ (i := 2) (N := some 39) q15_25 rfl rfl (one_of HT_.out (by kernel_rfl)) (by decide) (fun K hK => ?_)
     refine zH Try.func36 #[.agg #[.int .i64 a1_0, .string a1_1, .string a1_2, .string a1_3]] ?_
     with_reducible refine (laws_toAct.calls a1_0 a1_1 a1_2 a1_3 t287 t288 t289 t290 _ A23.out).mono ?_
     rintro e w54 ⟨rfl, hb⟩
     refine ⟨_, rfl, ?_⟩
     replace HO273 := Aside0.mk (Kd.R_below (zo HO273.out) hb)
     replace HO280 := Aside0.mk (Kd.R_below (zo HO280.out) hb)
     replace HO285 := Aside0.mk (Kd.R_below (zo HO285.out) hb)
     replace BK267 := zb BK267 hb
     replace BK268 := zb BK268 hb
     replace BK282 := zb BK282 hb
     replace BK286 := zb BK286 hb
     replace BK295 := zb BK295 hb
     replace HB := zs HB hb
     (try clear hb)
     (try clear hb2)
     (try clear hk)
     (try clear hi)
     refine hK.out _ _ ⟨(blk_cell BK286.out 0).trans rfl, (blk_cell BK268.out 0).trans rfl, (blk_cell BK268.out 1).trans rfl, (blk_cell BK268.out 2).trans rfl, (blk_cell BK268.out 3).trans rfl⟩ (fun hHeld => ?_)
     clear hK K
     refine zM ?_
     refine one_ (i := 3) (N := some 40) q15_29 rfl rfl (one_of HT_.out (by kernel_rfl)) (by decide) (fun K hK => ?_)
     refine zH Try.func37 #[.agg #[.slice Ao46 t283.length co46], .agg #[.int .i64 t287, .string t288, .string t289, .string t290]] ?_
     with_reducible refine (impl_DoAct.calls k _ _ t283 t287 t288 t289 t290 t291 t294 _ ?side1 ?side2 A24.out).mono ?_
     (case side1 => exact zI (Kd.R_reads' HO285.out).2.2)
     (case side2 => exact (Kd.R_reads' HO285.out).2.1)
     rintro e w55 ⟨v292, rfl, ho0, hb⟩
     refine ⟨_, rfl, ?_⟩
     have HO293 := Aside0.mk (Kd.R_lower (Kd.R_new' (Kd.R_new' (Kd.R_new' ho0 (Kd.R_lt (zo HO273.out))) (Kd.R_lt (zo HO280.out))) (Kd.R_lt (zo HO285.out))) (below_size (zw HB)))
     replace HO273 := Aside0.mk (Kd.R_elder' (zo HO273.out) (Kd.R_base ho0) hb)
     replace HO280 := Aside0.mk (Kd.R_elder' (zo HO280.out) (Kd.R_base ho0) hb)
     replace HO285 := Aside0.mk (Kd.R_elder' (zo HO285.out) (Kd.R_base ho0) hb)
     replace BK267 := zb BK267 hb
     replace BK268 := zb BK268 hb
     replace BK282 := zb BK282 hb
     replace BK286 := zb BK286 hb
     replace BK295 := zb BK295 hb
     replace HB := zs HB hb
     (try clear hb)
     (try clear hb2)
     (try clear hk)
     (try clear hi)
     (try clear ho0)
     refine hK.out _ _ ⟨(blk_cell BK286.out 0).trans rfl, (blk_cell BK268.out 0).trans rfl, (blk_cell BK268.out 1).trans rfl, (blk_cell BK268.out 2).trans rfl, (blk_cell BK268.out 3).trans rfl⟩ (fun hHeld => ?_)
     clear hK K
     refine zM ?_
     refine zP 4 (some 36) q15_30 HT_ ?_
     refine zP 5 (some 41) q15_31 HT_ ?_
     refine zP 6 (some 42) q15_21 HT_ ?_
     exact norm_ (by simp only [putAll, Act.put, zA, zB, zC]) (hCont (v292, gb295) _ ⟨hHeld, (zo (Kd.R_mono HO273.out (fun _ hk => ⟨hk.1.1, ⟨hk.1.2, hk.2⟩⟩))), (zo (Kd.R_mono HO280.out (fun _ hk => ⟨hk.1.1, ⟨hk.1.2, hk.2⟩⟩))), (zo (Kd.R_mono HO285.out (fun _ hk => ⟨hk.1.1, ⟨hk.1.2, hk.2⟩⟩))), (zo (Kd.R_mono HO293.out (fun _ hk => ⟨hk.1.1.2, ⟨hk.1.2, hk.2⟩⟩))), (zk BK267), (zk BK268), (zk BK282), (zk BK286), (zk BK295), GW295.out, GE295.out, NB267_295.out, NB295_267.out, NB268_295.out, NB295_268.out, NB282_295.out, NB295_282.out, NB286_295.out, NB295_286.out, (zw HB)⟩)
   rintro ⟨v292, gb295⟩ w56 ⟨hS_, h0_, h1_, h2_, h3_, h4_, h5_, h6_, h7_, h8_, h9_, h10_, h11_, h12_, h13_, h14_, h15_, h16_, h17_, h18_, h19_⟩
   have n0_ : Aside0 (Kd.R k45 45 w56 w.heap.size (fun k_ => some k_ ≠ (.slice Ao40 t278.length co40 : Value).ownBlock ∧ some k_ ≠ (.slice Ao46 t283.length co46 : Value).ownBlock ∧ some k_ ≠ (v292 : Value).ownBlock) v272 t271) := ⟨h0_⟩
   have n1_ : Aside0 (Kd.R k45 45 w56 w.heap.size (fun k_ => some k_ ≠ (v272 : Value).ownBlock ∧ some k_ ≠ (.slice Ao46 t283.length co46 : Value).ownBlock ∧ some k_ ≠ (v292 : Value).ownBlock) (.slice Ao40 t278.length co40) t278) := ⟨h1_⟩
   have n2_ : Aside0 (Kd.R k45 45 w56 w.heap.size (fun k_ => some k_ ≠ (v272 : Value).ownBlock ∧ some k_ ≠ (.slice Ao40 t278.length co40 : Value).ownBlock ∧ some k_ ≠ (v292 : Value).ownBlock) (.slice Ao46 t283.length co46) t283) := ⟨h2_⟩
   have n3_ : Aside0 (Kd.R k45 45 w56 w.heap.size (fun k_ => some k_ ≠ (v272 : Value).ownBlock ∧ some k_ ≠ (.slice Ao40 t278.length co40 : Value).ownBlock ∧ some k_ ≠ (.slice Ao46 t283.length co46 : Value).ownBlock) v292 t291) := ⟨h3_⟩
   have n4_ : Aside0 (w56.heap[gb267]? = some (.cells #[.slice A0_0 l0_0.length c0_0] 24 (0, 0))) := ⟨h4_⟩
   have n5_ : Aside0 (w56.heap[gb268]? = some (.cells #[.int .i64 a1_0, .string a1_1, .string a1_2, .string a1_3] 52 (0, 0))) := ⟨h5_⟩
   have n6_ : Aside0 (w56.heap[gb282]? = some (.cells #[.slice Ao40 t278.length co40] 29 (0, 0))) := ⟨h6_⟩
   have n7_ : Aside0 (w56.heap[gb286]? = some (.cells #[.slice Ao46 t283.length co46] 29 (0, 0))) := ⟨h7_⟩
   have n8_ : Aside0 (w56.heap[gb295]? = some (.cells #[.slice none 0 0] 29 (0, 0))) := ⟨h8_⟩
   have n9_ : Aside0 (w.heap.size ≤ gb295) := ⟨h9_⟩
   have n10_ : Aside0 (w.heap.size ≤ gb295) := ⟨h10_⟩
   have n11_ : Aside0 (gb267 ≠ gb295) := ⟨h11_⟩
   have n12_ : Aside0 (gb295 ≠ gb267) := ⟨h12_⟩
   have n13_ : Aside0 (gb268 ≠ gb295) := ⟨h13_⟩
   have n14_ : Aside0 (gb295 ≠ gb268) := ⟨h14_⟩
   have n15_ : Aside0 (gb282 ≠ gb295) := ⟨h15_⟩
   have n16_ : Aside0 (gb295 ≠ gb282) := ⟨h16_⟩
   have n17_ : Aside0 (gb286 ≠ gb295) := ⟨h17_⟩
   have n18_ : Aside0 (gb295 ≠ gb286) := ⟨h18_⟩
   have n19_ : Aside0 (Below w.heap.size w w56) := ⟨h19_⟩
   clear HO273
   clear HO280
   clear HO285
   clear BK267
   clear BK268
   clear BK282
   clear BK286
   clear HB
   clear h0_ h1_ h2_ h3_ h4_ h5_ h6_ h7_ h8_ h9_ h10_ h11_ h12_ h13_ h14_ h15_ h16_ h17_ h18_ h19_
   have HO273 := n0_
   have HO280 := n1_
   have HO285 := n2_
   have HO293 := n3_
   have BK267 := n4_
   have BK268 := n5_
   have BK282 := n6_
   have BK286 := n7_
   have BK295 := n8_
   have GW295 := n9_
   have GE295 := n10_
   have NB267_295 := n11_
   have NB295_267 := n12_
   have NB268_295 := n13_
   have NB295_268 := n14_
   have NB282_295 := n15_
   have NB295_282 := n16_
   have NB286_295 := n17_
   have NB295_286 := n18_
   have HB := n19_
   clear n0_ n1_ n2_ n3_ n4_ n5_ n6_ n7_ n8_ n9_ n10_ n11_ n12_ n13_ n14_ n15_ n16_ n17_ n18_ n19_
   have hHeld : w56.cell? ⟨gb286, 0, none⟩ = some (.slice Ao46 t283.length co46) ∧ w56.cell? ⟨gb268, 0, none⟩ = some (.int .i64 a1_0) ∧ w56.cell? ⟨gb268, 1, none⟩ = some (.string a1_1) ∧ w56.cell? ⟨gb268, 2, none⟩ = some (.string a1_2) ∧ w56.cell? ⟨gb268, 3, none⟩ = some (.string a1_3) := hS_
   obtain ⟨Ao57, co57, eo57⟩ := Kd.R_slice HO293.out
   (first | subst eo57 | (injection eo57 with f1_ f2_ f3_; have f4_ := f1_.symm; have f5_ := f3_.symm; clear f1_ f2_ f3_; subst f4_; subst f5_))
   refine norm_ (a' := ?_) ?_ ?_
   rotate_left
   ·simp only [putAll, Act.put, zA, zB, zC]
    rfl
   refine one_ (i := 8) (N := none) q15_32 rfl rfl (one_of HT_.out (by kernel_rfl)) (by decide) (fun K hK => ?_)
   have hs58 : w56.cell? ⟨gb295, 0, none⟩ = some (.slice none 0 0) := (blk_cell BK295.out 0).trans rfl
   have hfs58 := blk_frozen BK295.out 0
   have hns58_0 := NB267_295.out
   have hns58_1 := NB268_295.out
   have hns58_2 := NB282_295.out
   have hns58_3 := NB286_295.out
   have hms58_0 := NB295_267.out
   have hms58_1 := NB295_268.out
   have hms58_2 := NB295_282.out
   have hms58_3 := NB295_286.out
   refine skip_ (w1 := ?_) (by rfl) rfl ?_ ?_
   rotate_left
   ·go_simp
    rfl
   refine hK.out _ _ ⟨((cell_far (p := ⟨gb295, _, none⟩) NB286_295.out _).trans (hHeld.1)), ((cell_far (p := ⟨gb295, _, none⟩) NB268_295.out _).trans (hHeld.2.1)), ((cell_far (p := ⟨gb295, _, none⟩) NB268_295.out _).trans (hHeld.2.2.1)), ((cell_far (p := ⟨gb295, _, none⟩) NB268_295.out _).trans (hHeld.2.2.2.1)), ((cell_far (p := ⟨gb295, _, none⟩) NB268_295.out _).trans (hHeld.2.2.2.2))⟩ (fun hHeld => ?_)
   clear hK K
   refine zP 9 (some 10) q15_33 HT_ ?_
   refine done_ (done_of HT_.out (by kernel_rfl)) ?_
   go_upto_region 11 with (fail)
   go_cut [51] (fun v51 wc => ∃ (kq : Nat) (x51_24 : Bool), v51 = .bool x51_24 ∧ Aside0 (laws_FnExactDoAct.j0 kq t281 t294 x51_24 l0_0 a1_0 a1_1 a1_2 a1_3 t278 t283 t291 = some r) ∧ Aside0 (kq ≤ k) ∧ Aside0 (Kd.R k45 45 wc w.heap.size (fun k_ => some k_ ≠ ((.slice Ao46 t283.length co46) : Value).ownBlock ∧ some k_ ≠ ((.slice Ao57 t291.length co57) : Value).ownBlock) (.slice Ao40 t278.length co40) t278) ∧ Aside0 (Kd.R k45 45 wc w.heap.size (fun k_ => some k_ ≠ ((.slice Ao40 t278.length co40) : Value).ownBlock ∧ some k_ ≠ ((.slice Ao57 t291.length co57) : Value).ownBlock) (.slice Ao46 t283.length co46) t283) ∧ Aside0 (Kd.R k45 45 wc w.heap.size (fun k_ => some k_ ≠ ((.slice Ao40 t278.length co40) : Value).ownBlock ∧ some k_ ≠ ((.slice Ao46 t283.length co46) : Value).ownBlock) (.slice Ao57 t291.length co57) t291) ∧ Aside0 (wc.heap[gb267]? = some (.cells #[(.slice A0_0 l0_0.length c0_0)] 24 (0, 0))) ∧ Aside0 (wc.heap[gb268]? = some (.cells #[.int .i64 a1_0, .string a1_1, .string a1_2, .string a1_3] 52 (0, 0))) ∧ Aside0 (wc.heap[gb282]? = some (.cells #[(.slice Ao40 t278.length co40)] 29 (0, 0))) ∧ Aside0 (wc.heap[gb286]? = some (.cells #[(.slice Ao46 t283.length co46)] 29 (0, 0))) ∧ Aside0 (wc.heap[gb295]? = some (.cells #[(.slice Ao57 t291.length co57)] 29 (0, 0))) ∧ Aside0 (Below w.heap.size w wc))
   case first =>
    have H := HC25.out
    clear HC25
    replace H := Option.bind_eq_some_iff.mp H
    obtain ⟨t296, A590, H⟩ := H
    have A59 := Aside0.mk A590
    clear A590
    by_cases c60 : t296 = true
    ·subst c60
     rw [if_pos rfl] at H
     have H' := Aside0.mk H
     clear H
     have hnb61 := NB295_267.out
     have hnc61 := NB267_295.out
     have hnb62 := NB295_268.out
     have hnc62 := NB268_295.out
     have hnb63 := NB295_282.out
     have hnc63 := NB282_295.out
     have hnb64 := NB295_286.out
     have hnc64 := NB286_295.out
     have hcz65_0 : w56.cell? ⟨gb295, 0, none⟩ = some (.slice none 0 0) := (blk_cell BK295.out 0).trans rfl
     have hfz65_0 := blk_frozen BK295.out 0
     have hnb66 := NB282_267.out
     have hnc66 := NB267_282.out
     have hnb67 := NB282_268.out
     have hnc67 := NB268_282.out
     have hnb68 := NB282_286.out
     have hnc68 := NB286_282.out
     have hcz69_0 : w56.cell? ⟨gb282, 0, none⟩ = some (.slice Ao40 t278.length co40) := (blk_cell BK282.out 0).trans rfl
     have hfz69_0 := blk_frozen BK282.out 0
     go_wp2_with (first | ((with_reducible refine gate_callee (f := 16) rfl ?_); refine zG (some 45) Try.func16 #[.agg #[.slice Ao57 t291.length co57], .agg #[.slice Ao40 t278.length co40]] ?_; (with_reducible refine (laws_eqDisk.calls k _ _ t291 _ _ t278 true _ ?side1 ?side2 ?side3 ?side4 A59.out).mono ?_); (case side1 => refine (Kd.R_reads' (e := 45) (base := w.heap.size) (ok := fun k_ => (some k_ ≠ (v272 : Value).ownBlock ∧ (some k_ ≠ (.slice Ao40 t278.length co40 : Value).ownBlock ∧ some k_ ≠ (.slice Ao46 t283.length co46 : Value).ownBlock))) (n := t291.length) (c := co57) ?_).2.2; exact (zo ((Kd.R_mono (Kd.R_far (p := ⟨gb295, 0, none⟩) (Kd.R_types HO293.out BK295.out (by decide)) (fun _ hk => hk.2) (.slice Ao57 t291.length co57)) (fun _ h_ => h_.1))))); (case side2 => exact (Kd.R_reads' HO293.out).2.1); (case side3 => refine (Kd.R_reads' (e := 45) (base := w.heap.size) (ok := fun k_ => (some k_ ≠ (v272 : Value).ownBlock ∧ (some k_ ≠ (.slice Ao46 t283.length co46 : Value).ownBlock ∧ some k_ ≠ (.slice Ao57 t291.length co57 : Value).ownBlock))) (n := t278.length) (c := co40) ?_).2.2; exact (zo ((Kd.R_mono (Kd.R_far (p := ⟨gb295, 0, none⟩) (Kd.R_types HO280.out BK295.out (by decide)) (fun _ hk => hk.2) (.slice Ao57 t291.length co57)) (fun _ h_ => h_.1))))); (case side4 => exact (Kd.R_reads' HO280.out).2.1); rintro e w70 ⟨rfl, hb⟩; refine ⟨_, rfl, ?_⟩; replace HO273 := Aside0.mk (Kd.R_below (zo ((Kd.R_mono (Kd.R_far (p := ⟨gb295, 0, none⟩) (Kd.R_types HO273.out BK295.out (by decide)) (fun _ hk => hk.2) (.slice Ao57 t291.length co57)) (fun _ h_ => h_.1)))) hb); replace HO280 := Aside0.mk (Kd.R_below (zo ((Kd.R_mono (Kd.R_far (p := ⟨gb295, 0, none⟩) (Kd.R_types HO280.out BK295.out (by decide)) (fun _ hk => hk.2) (.slice Ao57 t291.length co57)) (fun _ h_ => h_.1)))) hb); replace HO285 := Aside0.mk (Kd.R_below (zo ((Kd.R_mono (Kd.R_far (p := ⟨gb295, 0, none⟩) (Kd.R_types HO285.out BK295.out (by decide)) (fun _ hk => hk.2) (.slice Ao57 t291.length co57)) (fun _ h_ => h_.1)))) hb); replace HO293 := Aside0.mk (Kd.R_below (zo ((Kd.R_mono (Kd.R_far (p := ⟨gb295, 0, none⟩) (Kd.R_types HO293.out BK295.out (by decide)) (fun _ hk => hk.2) (.slice Ao57 t291.length co57)) (fun _ h_ => h_.1)))) hb); replace BK267 := zbf BK267 hb; replace BK268 := zbf BK268 hb; replace BK282 := zbf BK282 hb; replace BK286 := zbf BK286 hb; replace BK295 := Aside0.mk (blk_below (g := gb295) (o := .cells #[.slice Ao57 t291.length co57] 29 (0, 0)) (by (with_reducible repeat (first | refine blk_drewN ?_ _ | refine blk_drew ?_ | refine blk_alloc ?_ _)); refine blk_put (cs := #[.slice none 0 0]) ?_ 0 _ rfl; (with_reducible repeat (first | refine blk_drewN ?_ _ | refine blk_drew ?_ | refine blk_alloc ?_ _)); exact BK295.out) hb); replace HB := zs HB hb; clear hb))
     go_meet
     case rel => exact ⟨_, ((t294 != t281)), zf, H', ⟨by first | omega | exact Nat.le_refl _⟩, ⟨zo (Kd.R_mono HO280.out (fun _ hk => ⟨hk.2.1, hk.2.2⟩))⟩, ⟨zo (Kd.R_mono HO285.out (fun _ hk => ⟨hk.2.1, hk.2.2⟩))⟩, ⟨zo (Kd.R_mono HO293.out (fun _ hk => ⟨hk.2.1, hk.2.2⟩))⟩, ⟨zkf BK267⟩, ⟨zkf BK268⟩, ⟨zkf BK282⟩, ⟨zkf BK286⟩, ⟨zkf BK295⟩, ⟨zw HB⟩⟩
    ·replace c60 := Bool.eq_false_iff.mpr c60
     subst c60
     rw [if_neg (show ¬ (false = true) by decide)] at H
     exact absurd (H.trans (congrArg some HR_.out)) laws_FnExactDoAct.j0_t
   case rest =>
    clear HC25
    try clear c1
    try clear p2
    try clear c3
    try clear c6
    try clear c7
    try clear c16
    try clear c36
    try clear c37
    try clear c60
    try clear c61
    try clear c62
    try clear c63
    try clear c64
    try clear c66
    try clear c67
    try clear c68
    try clear c71
    try clear c72
    try clear c73
    try clear c74
    try clear c76
    try clear c77
    try clear c78
    try clear hcz65_0
    try clear hcz69_0
    try clear hcz75_0
    try clear hcz79_0
    try clear hfz65_0
    try clear hfz69_0
    try clear hfz75_0
    try clear hfz79_0
    obtain ⟨kq, x51_24, rfl, HA, HJ24, HO_283000, HO_287000, HO_296000, BK267, BK268, BK282, BK286, BK295, HB⟩ := hcut
    cases kq with
    | zero => exact absurd HA.out (by simp [laws_FnExactDoAct.j0])
    | succ kj24 =>
     have H := HA.out
     clear HA
     simp only [laws_FnExactDoAct.j0] at H
     by_cases c81 : x51_24 = true
     ·subst c81
      rw [if_pos rfl] at H
      obtain rfl := Option.some.inj H
      exact absurd HR_.out (by decide)
     ·replace c81 := Bool.eq_false_iff.mpr c81
      subst c81
      rw [if_neg (show ¬ (false = true) by decide)] at H
      replace H := Option.bind_eq_some_iff.mp H
      obtain ⟨t297, A820, H⟩ := H
      have A82 := Aside0.mk A820
      clear A820
      replace H := Option.bind_eq_some_iff.mp H
      obtain ⟨t300, A830, H⟩ := H
      have A83 := Aside0.mk A830
      clear A830
      by_cases c84 : t300 = true
      ·subst c84
       rw [if_pos rfl] at H
       replace H := Option.bind_eq_some_iff.mp H
       obtain ⟨⟨t301, t302⟩, A850, H⟩ := H
       replace H : (if t301 < 0 then (laws_FnExactDoAct.j1 kj24 t281 true l0_0 a1_0 a1_1 a1_2 a1_3 t278 t291) else ((laws_eqDisk.f kj24 t291 t278).bind fun t303 => (if t303 = true then (laws_FnExactDoAct.j1 kj24 t281 (t294 != t281) l0_0 a1_0 a1_1 a1_2 a1_3 t278 t291) else (laws_FnExactDoAct.j1 kj24 t281 true l0_0 a1_0 a1_1 a1_2 a1_3 t278 t291)))) = some r := H
       have A85 := Aside0.mk A850
       clear A850
       have HC86 := Aside0.mk H
       clear H
       try go_wp2
       replace HO_283000 := Aside0.mk (Kd.R_drew HO_283000.out)
       replace HO_287000 := Aside0.mk (Kd.R_drew HO_287000.out)
       replace HO_296000 := Aside0.mk (Kd.R_drew HO_296000.out)
       replace BK267 := Aside0.mk (blk_drew BK267.out)
       replace BK268 := Aside0.mk (blk_drew BK268.out)
       replace BK282 := Aside0.mk (blk_drew BK282.out)
       replace BK286 := Aside0.mk (blk_drew BK286.out)
       replace BK295 := Aside0.mk (blk_drew BK295.out)
       replace HB := Aside0.mk (below_drew1 HB.out)
       refine start_ (n := 5) (S := fun w' => w'.cell? ⟨gb286, 0, none⟩ = some (.slice Ao46 t283.length co46) ∧ w'.cell? ⟨gb267, 0, none⟩ = some (.slice A0_0 l0_0.length c0_0)) (ds := []) #[false, false, false, false, false] (by kernel_rfl) rfl rfl ⟨(blk_cell BK286.out 0).trans rfl, (blk_cell BK267.out 0).trans rfl⟩ (fun hHeld => ?_)
       generalize wc.drew = w87 at HO_283000 HO_287000 HO_296000 BK267 BK268 BK282 BK286 BK295 HB hHeld ⊢
       refine take_ (i := 0) (N := some 52) (v := ?_) (a' := ?_) #[true, false, false, false, false] rfl rfl (by kernel_rfl) (fun _ _ _ h => h) (Or.inl ⟨by rfl, ?_⟩) hHeld ?_ ?_
       rotate_left
       ·rintro w' ⟨s0, s1⟩
        go_simp
        with_reducible rfl
       rotate_left
       ·simp only [Act.put, zA, zB, zC, i64_w, i32_w]
        rfl
       refine take_ (i := 1) (N := some 53) (v := ?_) (a' := ?_) #[true, true, false, false, false] rfl rfl (by kernel_rfl) (fun _ _ _ h => h) (Or.inl ⟨by rfl, ?_⟩) hHeld ?_ ?_
       rotate_left
       ·rintro w' ⟨s0, s1⟩
        go_simp
        with_reducible rfl
       rotate_left
       ·simp only [Act.put, zA, zB, zC, i64_w, i32_w]
        rfl
       refine one_ (i := 2) (N := some 54) #[true, true, true, false, false] rfl rfl (by kernel_rfl) (by decide) (fun K hK => ?_)
       refine zH Try.func14 #[.agg #[.slice A0_0 l0_0.length c0_0]] ?_
       with_reducible refine (laws_toDisk.calls kj24 _ _ l0_0 t297 _ ?side1 ?side2 A82.out).mono ?_
       (case side1 => exact zI (Kd.C_below HR0_0.out HB.out))
       (case side2 => exact HC0_0.out)
       rintro e w88 ⟨v298, rfl, ho0, hb⟩
       refine ⟨_, rfl, ?_⟩
       have HO299 := Aside0.mk (Kd.R_lower (Kd.R_new' (Kd.R_new' (Kd.R_new' ho0 (Kd.R_lt (zo HO_283000.out))) (Kd.R_lt (zo HO_287000.out))) (Kd.R_lt (zo HO_296000.out))) (below_size (zw HB)))
       replace HO_283000 := Aside0.mk (Kd.R_elder' (zo HO_283000.out) (Kd.R_base ho0) hb)
       replace HO_287000 := Aside0.mk (Kd.R_elder' (zo HO_287000.out) (Kd.R_base ho0) hb)
       replace HO_296000 := Aside0.mk (Kd.R_elder' (zo HO_296000.out) (Kd.R_base ho0) hb)
       replace BK267 := zb BK267 hb
       replace BK268 := zb BK268 hb
       replace BK282 := zb BK282 hb
       replace BK286 := zb BK286 hb
       replace BK295 := zb BK295 hb
       replace HB := zs HB hb
       (try clear hb)
       (try clear hb2)
       (try clear hk)
       (try clear hi)
       (try clear ho0)
       obtain ⟨Ao89, co89, eo89⟩ := Kd.R_slice HO299.out
       (first | subst eo89 | (injection eo89 with f1_ f2_ f3_; have f4_ := f1_.symm; have f5_ := f3_.symm; clear f1_ f2_ f3_; subst f4_; subst f5_))
       refine hK.out _ _ ⟨(blk_cell BK286.out 0).trans rfl, (blk_cell BK267.out 0).trans rfl⟩ (fun hHeld => ?_)
       clear hK K
       refine zM ?_
       refine one_ (i := 3) (N := some 55) #[true, true, true, true, false] rfl rfl (by kernel_rfl) (by decide) (fun K hK => ?_)
       refine zH Try.func16 #[.agg #[.slice Ao46 t283.length co46], .agg #[.slice Ao89 t297.length co89]] ?_
       with_reducible refine (laws_eqDisk.calls kj24 _ _ t283 _ _ t297 true _ ?side1 ?side2 ?side3 ?side4 A83.out).mono ?_
       (case side1 => exact zI (Kd.R_reads' HO_287000.out).2.2)
       (case side2 => exact (Kd.R_reads' HO_287000.out).2.1)
       (case side3 => exact zI (Kd.R_reads' HO299.out).2.2)
       (case side4 => exact (Kd.R_reads' HO299.out).2.1)
       rintro e w90 ⟨rfl, hb⟩
       refine ⟨_, rfl, ?_⟩
       replace HO_283000 := Aside0.mk (Kd.R_below (zo HO_283000.out) hb)
       replace HO_287000 := Aside0.mk (Kd.R_below (zo HO_287000.out) hb)
       replace HO_296000 := Aside0.mk (Kd.R_below (zo HO_296000.out) hb)
       replace HO299 := Aside0.mk (Kd.R_below (zo HO299.out) hb)
       replace BK267 := zb BK267 hb
       replace BK268 := zb BK268 hb
       replace BK282 := zb BK282 hb
       replace BK286 := zb BK286 hb
       replace BK295 := zb BK295 hb
       replace HB := zs HB hb
       (try clear hb)
       (try clear hb2)
       (try clear hk)
       (try clear hi)
       refine hK.out _ _ ⟨(blk_cell BK286.out 0).trans rfl, (blk_cell BK267.out 0).trans rfl⟩ (fun hHeld => ?_)
       clear hK K
       refine zM ?_
       refine pure_ (i := 4) (N := some 56) (v := ?_) (a' := ?_) #[true, true, true, true, true] rfl rfl (by kernel_rfl) (fun _ _ _ h => h) (Or.inl ⟨by rfl, ?_⟩) ?_ ?_
       rotate_left
       ·intro w'
        go_simp
        with_reducible rfl
       rotate_left
       ·simp only [Act.put, zA, zB, zC, i64_w, i32_w]
        rfl
       refine done_ (by kernel_rfl) ?_
       have hnb91 := NB286_267.out
       have hnc91 := NB267_286.out
       have hnb92 := NB286_268.out
       have hnc92 := NB268_286.out
       have hnb93 := NB286_282.out
       have hnc93 := NB282_286.out
       have hnb94 := NB286_295.out
       have hnc94 := NB295_286.out
       have hcz95_0 : w90.cell? ⟨gb286, 0, none⟩ = some (.slice Ao46 t283.length co46) := (blk_cell BK286.out 0).trans rfl
       have hfz95_0 := blk_frozen BK286.out 0
       go_upto_region 17 with (first | ((with_reducible refine gate_callee (f := 31) rfl ?_); refine zG (some 59) Try.func31 #[.agg #[.slice Ao46 t283.length co46], .int .i64 1] ?_; (with_reducible refine (laws_markDisk.calls kj24 (fun k_ => some k_ = (.slice Ao46 t283.length co46 : Value).ownBlock) (.slice Ao46 t283.length co46) t283 1 t301 t302 w _ ?side1 ?side2 A85.out).mono ?_); (case side1 => exact zw HB); (case side2 => exact Kd.R_tight rfl HO_287000.out); rintro e w96 ⟨rfl, hy0, hb, hkp⟩; refine ⟨_, rfl, ?_⟩; replace HO_283000 := Aside0.mk (Kd.R_mono (ok' := fun k_ => some k_ ≠ (.slice Ao46 t283.length co46 : Value).ownBlock ∧ some k_ ≠ (.slice Ao57 t291.length co57 : Value).ownBlock ∧ some k_ ≠ (.slice Ao89 t297.length co89 : Value).ownBlock) (Kd.R_keptB (HO_283000.out) hkp (fun k_ hk_ hs_ => (hk_.1.1) hs_)) (fun k_ hk_ => ⟨hk_.1.1.1, hk_.1.1.2, hk_.1.2⟩)); replace HO_296000 := Aside0.mk (Kd.R_mono (ok' := fun k_ => some k_ ≠ (.slice Ao40 t278.length co40 : Value).ownBlock ∧ some k_ ≠ (.slice Ao46 t283.length co46 : Value).ownBlock ∧ some k_ ≠ (.slice Ao89 t297.length co89 : Value).ownBlock) (Kd.R_keptB (HO_296000.out) hkp (fun k_ hk_ hs_ => (hk_.1.2) hs_)) (fun k_ hk_ => ⟨hk_.1.1.1, hk_.1.1.2, hk_.1.2⟩)); replace BK267 := Aside0.mk (blk_kept (zk BK267) hkp (fun hs_ => (fun e_ => (Kd.R_ne HO_287000.out BK267.out (by decide)) e_) hs_)); replace BK268 := Aside0.mk (blk_kept (zk BK268) hkp (fun hs_ => (fun e_ => (Kd.R_ne HO_287000.out BK268.out (by decide)) e_) hs_)); replace BK282 := Aside0.mk (blk_kept (zk BK282) hkp (fun hs_ => (fun e_ => (Kd.R_ne HO_287000.out BK282.out (by decide)) e_) hs_)); replace BK286 := Aside0.mk (blk_kept (zk BK286) hkp (fun hs_ => (fun e_ => (Kd.R_ne HO_287000.out BK286.out (by decide)) e_) hs_)); replace BK295 := Aside0.mk (blk_kept (zk BK295) hkp (fun hs_ => (fun e_ => (Kd.R_ne HO_287000.out BK295.out (by decide)) e_) hs_)); replace HO_287000 := Aside0.mk (Kd.R_reok rfl hy0 (fun k_ e_ => HO_287000.out.1 k_ e_)); replace HO299 := Aside0.mk (Kd.R_mono (ok' := fun k_ => some k_ ≠ (.slice Ao40 t278.length co40 : Value).ownBlock ∧ some k_ ≠ (.slice Ao46 t283.length co46 : Value).ownBlock ∧ some k_ ≠ (.slice Ao57 t291.length co57 : Value).ownBlock) (Kd.R_keptB (HO299.out) hkp (fun k_ hk_ hs_ => (hk_.1.2) hs_)) (fun k_ hk_ => ⟨hk_.1.1.1.2, hk_.1.1.2, hk_.1.2⟩)); replace HB := Aside0.mk (hb); (try clear hb); (try clear hkp); (try clear hy0)))
       (try simp only [Act.put, zA, zB, zC])
       go_cut [72] (fun v72 wc => ∃ (kq : Nat) (x72_85 : Bool), v72 = .bool x72_85 ∧ Aside0 (laws_FnExactDoAct.j1 kq t281 x72_85 l0_0 a1_0 a1_1 a1_2 a1_3 t278 t291 = some r) ∧ Aside0 (kq ≤ kj24) ∧ Aside0 (Kd.R k45 45 wc w.heap.size (fun k_ => some k_ ≠ ((.slice Ao46 t283.length co46) : Value).ownBlock ∧ some k_ ≠ ((.slice Ao57 t291.length co57) : Value).ownBlock) (.slice Ao40 t278.length co40) t278) ∧ Aside0 (Kd.R k45 45 wc w.heap.size (fun k_ => some k_ ≠ ((.slice Ao40 t278.length co40) : Value).ownBlock ∧ some k_ ≠ ((.slice Ao57 t291.length co57) : Value).ownBlock) (.slice Ao46 t283.length co46) t302) ∧ Aside0 (Kd.R k45 45 wc w.heap.size (fun k_ => some k_ ≠ ((.slice Ao40 t278.length co40) : Value).ownBlock ∧ some k_ ≠ ((.slice Ao46 t283.length co46) : Value).ownBlock) (.slice Ao57 t291.length co57) t291) ∧ Aside0 (wc.heap[gb267]? = some (.cells #[(.slice A0_0 l0_0.length c0_0)] 24 (0, 0))) ∧ Aside0 (wc.heap[gb268]? = some (.cells #[.int .i64 a1_0, .string a1_1, .string a1_2, .string a1_3] 52 (0, 0))) ∧ Aside0 (wc.heap[gb282]? = some (.cells #[(.slice Ao40 t278.length co40)] 29 (0, 0))) ∧ Aside0 (wc.heap[gb286]? = some (.cells #[(.slice Ao46 t283.length co46)] 29 (0, 0))) ∧ Aside0 (wc.heap[gb295]? = some (.cells #[(.slice Ao57 t291.length co57)] 29 (0, 0))) ∧ Aside0 (Below w.heap.size w wc))
       case first =>
        have H := HC86.out
        clear HC86
        by_cases c97 : t301 < 0
        ·rw [if_pos c97] at H
         have c97b0 : decide (t301 < 0) = true := decide_eq_true c97
         clear c97
         (first | rw [c97b0] | (simp only [i64_w, i32_w]; rw [c97b0]) | skip)
         have H' := Aside0.mk H
         clear H
         go_wp2
         go_meet
         case rel => exact ⟨_, (true), zf, H', ⟨by have := HJ24.out; first | omega | exact Nat.le_refl _⟩, ⟨zo (Kd.R_mono HO_283000.out (fun _ hk => ⟨hk.1, hk.2.1⟩))⟩, ⟨zo (Kd.R_mono HO_287000.out (fun _ hk => ⟨hk.1.1, hk.1.2⟩))⟩, ⟨zo (Kd.R_mono HO_296000.out (fun _ hk => ⟨hk.1, hk.2.1⟩))⟩, ⟨zkf BK267⟩, ⟨zkf BK268⟩, ⟨zkf BK282⟩, ⟨zkf BK286⟩, ⟨zkf BK295⟩, ⟨zw HB⟩⟩
        ·rw [if_neg c97] at H
         have c97b0 : decide (t301 < 0) = false := decide_eq_false c97
         clear c97
         (first | rw [c97b0] | (simp only [i64_w, i32_w]; rw [c97b0]) | skip)
         replace H := Option.bind_eq_some_iff.mp H
         obtain ⟨t303, A980, H⟩ := H
         have A98 := Aside0.mk A980
         clear A980
         by_cases c99 : t303 = true
         ·subst c99
          rw [if_pos rfl] at H
          have H' := Aside0.mk H
          clear H
          have hnb100 := NB295_267.out
          have hnc100 := NB267_295.out
          have hnb101 := NB295_268.out
          have hnc101 := NB268_295.out
          have hnb102 := NB295_282.out
          have hnc102 := NB282_295.out
          have hnb103 := NB295_286.out
          have hnc103 := NB286_295.out
          have hcz104_0 : w96.cell? ⟨gb295, 0, none⟩ = some (.slice Ao57 t291.length co57) := (blk_cell BK295.out 0).trans rfl
          have hfz104_0 := blk_frozen BK295.out 0
          have hnb105 := NB282_267.out
          have hnc105 := NB267_282.out
          have hnb106 := NB282_268.out
          have hnc106 := NB268_282.out
          have hnb107 := NB282_286.out
          have hnc107 := NB286_282.out
          have hcz108_0 : w96.cell? ⟨gb282, 0, none⟩ = some (.slice Ao40 t278.length co40) := (blk_cell BK282.out 0).trans rfl
          have hfz108_0 := blk_frozen BK282.out 0
          go_wp2_with (first | (go_at_call 16; (with_reducible refine (laws_eqDisk.calls kj24 _ _ t291 _ _ t278 true _ ?side1 ?side2 ?side3 ?side4 A98.out).mono ?_); (case side1 => exact zI (Kd.R_reads' HO_296000.out).2.2); (case side2 => exact (Kd.R_reads' HO_296000.out).2.1); (case side3 => exact zI (Kd.R_reads' HO_283000.out).2.2); (case side4 => exact (Kd.R_reads' HO_283000.out).2.1); rintro e w109 ⟨rfl, hb⟩; replace HO_283000 := Aside0.mk (Kd.R_below (zo HO_283000.out) hb); replace HO_287000 := Aside0.mk (Kd.R_below (zo HO_287000.out) hb); replace HO_296000 := Aside0.mk (Kd.R_below (zo HO_296000.out) hb); replace HO299 := Aside0.mk (Kd.R_below (zo HO299.out) hb); replace BK267 := zb BK267 hb; replace BK268 := zb BK268 hb; replace BK282 := zb BK282 hb; replace BK286 := zb BK286 hb; replace BK295 := zb BK295 hb; replace HB := zs HB hb; clear hb))
          go_meet
          case rel => exact ⟨_, ((t294 != t281)), zf, H', ⟨by have := HJ24.out; first | omega | exact Nat.le_refl _⟩, ⟨zo (Kd.R_mono HO_283000.out (fun _ hk => ⟨hk.1, hk.2.1⟩))⟩, ⟨zo (Kd.R_mono HO_287000.out (fun _ hk => ⟨hk.1.1, hk.1.2⟩))⟩, ⟨zo (Kd.R_mono HO_296000.out (fun _ hk => ⟨hk.1, hk.2.1⟩))⟩, ⟨zkf BK267⟩, ⟨zkf BK268⟩, ⟨zkf BK282⟩, ⟨zkf BK286⟩, ⟨zkf BK295⟩, ⟨zw HB⟩⟩
         ·replace c99 := Bool.eq_false_iff.mpr c99
          subst c99
          rw [if_neg (show ¬ (false = true) by decide)] at H
          exact absurd (H.trans (congrArg some HR_.out)) laws_FnExactDoAct.j1_t
       case rest =>
        clear HC86
        try clear c1
        try clear p2
        try clear c3
        try clear c6
        try clear c7
        try clear c8
        try clear c9
        try clear c10
        try clear c11
        try clear c14
        try clear c16
        try clear c31
        try clear c36
        try clear c37
        try clear c60
        try clear c61
        try clear c62
        try clear c63
        try clear c64
        try clear c66
        try clear c67
        try clear c68
        try clear c71
        try clear c72
        try clear c73
        try clear c74
        try clear c76
        try clear c77
        try clear c78
        try clear c81
        try clear c84
        try clear c91
        try clear c92
        try clear c93
        try clear c94
        try clear c97
        try clear c97b0
        try clear c99
        try clear c100
        try clear c101
        try clear c102
        try clear c103
        try clear c105
        try clear c106
        try clear c107
        try clear c110
        try clear c111
        try clear c112
        try clear c113
        try clear c115
        try clear c116
        try clear c117
        try clear hcz104_0
        try clear hcz108_0
        try clear hcz114_0
        try clear hcz118_0
        try clear hcz65_0
        try clear hcz69_0
        try clear hcz75_0
        try clear hcz79_0
        try clear hcz95_0
        try clear hfz104_0
        try clear hfz108_0
        try clear hfz114_0
        try clear hfz118_0
        try clear hfz65_0
        try clear hfz69_0
        try clear hfz75_0
        try clear hfz79_0
        try clear hfz95_0
        try clear p2
        obtain ⟨kq, x72_85, rfl, HA, HJ85, HO_283000, HO_287000, HO_296000, BK267, BK268, BK282, BK286, BK295, HB⟩ := hcut
        have hl287000_85 := (Kd.R_reads' HO_287000.out).1
        rw [hl287000_85] at HO_287000
        (try simp only [hl287000_85])
        (try simp only [hl287000_85] at BK267)
        (try simp only [hl287000_85] at BK268)
        (try simp only [hl287000_85] at BK282)
        (try simp only [hl287000_85] at BK286)
        (try simp only [hl287000_85] at BK295)
        (try simp only [hl287000_85] at HO_283000)
        (try simp only [hl287000_85] at HO_296000)
        cases kq with
        | zero => exact absurd HA.out (by simp [laws_FnExactDoAct.j1])
        | succ kj85 =>
         have H := HA.out
         clear HA
         simp only [laws_FnExactDoAct.j1] at H
         by_cases c120 : x72_85 = true
         ·subst c120
          rw [if_pos rfl] at H
          obtain rfl := Option.some.inj H
          exact absurd HR_.out (by decide)
         ·replace c120 := Bool.eq_false_iff.mpr c120
          subst c120
          rw [if_neg (show ¬ (false = true) by decide)] at H
          replace H := Option.bind_eq_some_iff.mp H
          obtain ⟨⟨t304, t305⟩, A1210, H⟩ := H
          replace H : ((laws_heldDisk.f kj85 t305 1).bind fun t306 => (if t306 < 0 then (some false) else (if t306 = t304 then ((laws_toDisk.f kj85 l0_0).bind fun t307 => ((laws_toAct.f a1_0 a1_1 a1_2 a1_3).bind fun bt310 => ((impl_DoAct.f kj85 t307 bt310.1 bt310.2.1 bt310.2.2.1 bt310.2.2.2).bind fun bt314 => ((laws_eqDisk.f kj85 bt314.1 t278).bind fun t319 => (if t319 = true then (laws_FnExactDoAct.j2 kj85 t304 (bt314.2 != t281) t305) else (laws_FnExactDoAct.j2 kj85 t304 true t305)))))) else (some false)))) = some r := H
          have A121 := Aside0.mk A1210
          clear A1210
          replace H := Option.bind_eq_some_iff.mp H
          obtain ⟨t306, A1220, H⟩ := H
          have A122 := Aside0.mk A1220
          clear A1220
          by_cases c123 : t306 < 0
          ·rw [if_pos c123] at H
           have c123b0 : decide (t306 < 0) = true := decide_eq_true c123
           clear c123
           obtain rfl := Option.some.inj H
           exact absurd HR_.out (by decide)
          ·rw [if_neg c123] at H
           have c123b0 : decide (t306 < 0) = false := decide_eq_false c123
           clear c123
           by_cases c132 : t306 = t304
           ·rw [if_pos c132] at H
            have c132b0 : (t306 == t304) = true := beq_iff_eq.mpr c132
            have c132b1 : (t306 != t304) = false := bne_eq_false_iff_eq.mpr c132
            clear c132
            replace H := Option.bind_eq_some_iff.mp H
            obtain ⟨t307, A1330, H⟩ := H
            have A133 := Aside0.mk A1330
            clear A1330
            replace H := Option.bind_eq_some_iff.mp H
            obtain ⟨⟨t310, t311, t312, t313⟩, A1340, H⟩ := H
            replace H : ((impl_DoAct.f kj85 t307 t310 t311 t312 t313).bind fun bt314 => ((laws_eqDisk.f kj85 bt314.1 t278).bind fun t319 => (if t319 = true then (laws_FnExactDoAct.j2 kj85 t304 (bt314.2 != t281) t305) else (laws_FnExactDoAct.j2 kj85 t304 true t305)))) = some r := H
            have A134 := Aside0.mk A1340
            clear A1340
            replace H := Option.bind_eq_some_iff.mp H
            obtain ⟨⟨t314, t317⟩, A1350, H⟩ := H
            replace H : ((laws_eqDisk.f kj85 t314 t278).bind fun t319 => (if t319 = true then (laws_FnExactDoAct.j2 kj85 t304 (t317 != t281) t305) else (laws_FnExactDoAct.j2 kj85 t304 true t305))) = some r := H
            have A135 := Aside0.mk A1350
            clear A1350
            have HC136 := Aside0.mk H
            clear H
            have hnb137 := NB295_267.out
            have hnc137 := NB267_295.out
            have hnb138 := NB295_268.out
            have hnc138 := NB268_295.out
            have hnb139 := NB295_282.out
            have hnc139 := NB282_295.out
            have hnb140 := NB295_286.out
            have hnc140 := NB286_295.out
            have hcz141_0 : wc.cell? ⟨gb295, 0, none⟩ = some (.slice Ao57 t291.length co57) := (blk_cell BK295.out 0).trans rfl
            have hfz141_0 := blk_frozen BK295.out 0
            try go_wp2_with (first | ((with_reducible refine gate_callee (f := 31) rfl ?_); refine zG (some 75) Try.func31 #[.agg #[.slice Ao57 t291.length co57], .int .i64 1] ?_; (with_reducible refine (laws_markDisk.calls kj85 (fun k_ => some k_ = (.slice Ao57 t291.length co57 : Value).ownBlock) (.slice Ao57 t291.length co57) t291 1 t304 t305 w _ ?side1 ?side2 A121.out).mono ?_); (case side1 => exact zw HB); (case side2 => exact Kd.R_tight rfl HO_296000.out); rintro e w142 ⟨rfl, hy0, hb, hkp⟩; refine ⟨_, rfl, ?_⟩; replace HO_283000 := Aside0.mk (Kd.R_mono (ok' := fun k_ => some k_ ≠ (.slice Ao46 t302.length co46 : Value).ownBlock ∧ some k_ ≠ (.slice Ao57 t291.length co57 : Value).ownBlock) (Kd.R_keptB (HO_283000.out) hkp (fun k_ hk_ hs_ => (hk_.2) hs_)) (fun k_ hk_ => ⟨hk_.1.1, hk_.1.2⟩)); replace HO_287000 := Aside0.mk (Kd.R_mono (ok' := fun k_ => some k_ ≠ (.slice Ao40 t278.length co40 : Value).ownBlock ∧ some k_ ≠ (.slice Ao57 t291.length co57 : Value).ownBlock) (Kd.R_keptB (HO_287000.out) hkp (fun k_ hk_ hs_ => (hk_.2) hs_)) (fun k_ hk_ => ⟨hk_.1.1, hk_.1.2⟩)); replace BK267 := Aside0.mk (blk_kept (zk BK267) hkp (fun hs_ => (fun e_ => (Kd.R_ne HO_296000.out BK267.out (by decide)) e_) hs_)); replace BK268 := Aside0.mk (blk_kept (zk BK268) hkp (fun hs_ => (fun e_ => (Kd.R_ne HO_296000.out BK268.out (by decide)) e_) hs_)); replace BK282 := Aside0.mk (blk_kept (zk BK282) hkp (fun hs_ => (fun e_ => (Kd.R_ne HO_296000.out BK282.out (by decide)) e_) hs_)); replace BK286 := Aside0.mk (blk_kept (zk BK286) hkp (fun hs_ => (fun e_ => (Kd.R_ne HO_296000.out BK286.out (by decide)) e_) hs_)); replace BK295 := Aside0.mk (blk_kept (zk BK295) hkp (fun hs_ => (fun e_ => (Kd.R_ne HO_296000.out BK295.out (by decide)) e_) hs_)); replace HO_296000 := Aside0.mk (Kd.R_reok rfl hy0 (fun k_ e_ => HO_296000.out.1 k_ e_)); replace HB := Aside0.mk (hb); clear hb; (try clear hkp); (try clear hy0); have hcz143_0 : w142.cell? ⟨gb295, 0, none⟩ = some (.slice Ao57 t291.length co57) := (blk_cell BK295.out 0).trans rfl; have hfz143_0 := blk_frozen BK295.out 0) | ((with_reducible refine gate_callee (f := 33) rfl ?_); refine goesL_ (some 78) rfl rfl Try.func33 (by kernel_rfl) rfl #[.agg #[.slice Ao57 t305.length co57], .int .i64 1] rfl (by (try simp only [List.map_toArray, List.map_cons, List.map_nil]); first | done | (rw [show t305.length = t291.length from (Kd.R_reads' HO_296000.out).1.symm] <;> rfl) | rfl | (simp only [List.length_drop, List.length_take]; rfl)) ?_; (with_reducible refine (laws_heldDisk.calls kj85 _ _ t305 1 t306 _ ?side1 ?side2 A122.out).mono ?_); (case side1 => exact zI (Kd.R_reads' HO_296000.out).2.2); (case side2 => rw [show t305.length = t291.length from (Kd.R_reads' HO_296000.out).1.symm]; exact (Kd.R_reads' HO_296000.out).2.1); rintro e w144 ⟨rfl, hb⟩; refine ⟨_, rfl, ?_⟩; replace HO_283000 := Aside0.mk (Kd.R_below (zo HO_283000.out) hb); replace HO_287000 := Aside0.mk (Kd.R_below (zo HO_287000.out) hb); replace HO_296000 := Aside0.mk (Kd.R_below (zo HO_296000.out) hb); replace BK267 := zb BK267 hb; replace BK268 := zb BK268 hb; replace BK282 := zb BK282 hb; replace BK286 := zb BK286 hb; replace BK295 := zb BK295 hb; replace HB := zs HB hb; clear hb))
            replace HO_283000 := Aside0.mk (Kd.R_drew HO_283000.out)
            replace HO_287000 := Aside0.mk (Kd.R_drew HO_287000.out)
            replace HO_296000 := Aside0.mk (Kd.R_drew HO_296000.out)
            replace BK267 := Aside0.mk (blk_drew BK267.out)
            replace BK268 := Aside0.mk (blk_drew BK268.out)
            replace BK282 := Aside0.mk (blk_drew BK282.out)
            replace BK286 := Aside0.mk (blk_drew BK286.out)
            replace BK295 := Aside0.mk (blk_drew BK295.out)
            replace HB := Aside0.mk (below_drew1 HB.out)
            refine start_ (n := 11) (S := fun w' => w'.cell? ⟨gb267, 0, none⟩ = some (.slice A0_0 l0_0.length c0_0) ∧ w'.cell? ⟨gb268, 0, none⟩ = some (.int .i64 a1_0) ∧ w'.cell? ⟨gb268, 1, none⟩ = some (.string a1_1) ∧ w'.cell? ⟨gb268, 2, none⟩ = some (.string a1_2) ∧ w'.cell? ⟨gb268, 3, none⟩ = some (.string a1_3)) (ds := []) q15_0 (by kernel_rfl) rfl rfl ⟨(blk_cell BK267.out 0).trans rfl, (blk_cell BK268.out 0).trans rfl, (blk_cell BK268.out 1).trans rfl, (blk_cell BK268.out 2).trans rfl, (blk_cell BK268.out 3).trans rfl⟩ (fun hHeld => ?_); refine with_tabW laws_FnExactDoAct.tab27 laws_FnExactDoAct.bits27 (fun HT_ HW_ => ?_)
            generalize w144.drew = w145 at HO_283000 HO_287000 HO_296000 BK267 BK268 BK282 BK286 BK295 HB hHeld ⊢
            refine zT 0 (some 85) q15_1 HT_ HW_ hHeld ?_
            refine zT 2 (some 87) q15_2 HT_ HW_ hHeld ?_
            refine join_ (σ := Value × Value × Nat) 2 q15_3 (fun s_ => [(86, .agg #[s_.1]), (88, .agg #[.int .i64 t310, .string t311, .string t312, .string t313]), (89, .tuple #[.agg #[s_.2.1], .bool t317]), (14, .pointer (some ⟨s_.2.2, 0, none⟩)), (84, .tuple #[.agg #[s_.2.1], .bool t317]), (90, .agg #[s_.2.1]), (91, .bool t317)]) (fun s_ w' => (w'.cell? ⟨gb267, 0, none⟩ = some (.slice A0_0 l0_0.length c0_0) ∧ w'.cell? ⟨gb268, 0, none⟩ = some (.int .i64 a1_0) ∧ w'.cell? ⟨gb268, 1, none⟩ = some (.string a1_1) ∧ w'.cell? ⟨gb268, 2, none⟩ = some (.string a1_2) ∧ w'.cell? ⟨gb268, 3, none⟩ = some (.string a1_3)) ∧ (Kd.R k45 45 w' w.heap.size (fun k_ => some k_ ≠ (s_.2.1 : Value).ownBlock ∧ some k_ ≠ (.slice Ao40 t278.length co40 : Value).ownBlock ∧ some k_ ≠ (.slice Ao46 t302.length co46 : Value).ownBlock ∧ some k_ ≠ (.slice Ao57 t291.length co57 : Value).ownBlock) s_.1 t307) ∧ (Kd.R k45 45 w' w.heap.size (fun k_ => some k_ ≠ (s_.1 : Value).ownBlock ∧ some k_ ≠ (.slice Ao40 t278.length co40 : Value).ownBlock ∧ some k_ ≠ (.slice Ao46 t302.length co46 : Value).ownBlock ∧ some k_ ≠ (.slice Ao57 t291.length co57 : Value).ownBlock) s_.2.1 t314) ∧ (Kd.R k45 45 w' w.heap.size (fun k_ => some k_ ≠ (s_.1 : Value).ownBlock ∧ some k_ ≠ (s_.2.1 : Value).ownBlock ∧ some k_ ≠ (.slice Ao46 t302.length co46 : Value).ownBlock ∧ some k_ ≠ (.slice Ao57 t291.length co57 : Value).ownBlock) (.slice Ao40 t278.length co40) t278) ∧ (Kd.R k45 45 w' w.heap.size (fun k_ => some k_ ≠ (s_.1 : Value).ownBlock ∧ some k_ ≠ (s_.2.1 : Value).ownBlock ∧ some k_ ≠ (.slice Ao40 t278.length co40 : Value).ownBlock ∧ some k_ ≠ (.slice Ao57 t291.length co57 : Value).ownBlock) (.slice Ao46 t302.length co46) t302) ∧ (Kd.R k45 45 w' w.heap.size (fun k_ => some k_ ≠ (s_.1 : Value).ownBlock ∧ some k_ ≠ (s_.2.1 : Value).ownBlock ∧ some k_ ≠ (.slice Ao40 t278.length co40 : Value).ownBlock ∧ some k_ ≠ (.slice Ao46 t302.length co46 : Value).ownBlock) (.slice Ao57 t291.length co57) t305) ∧ (w'.heap[gb267]? = some (.cells #[.slice A0_0 l0_0.length c0_0] 24 (0, 0))) ∧ (w'.heap[gb268]? = some (.cells #[.int .i64 a1_0, .string a1_1, .string a1_2, .string a1_3] 52 (0, 0))) ∧ (w'.heap[gb282]? = some (.cells #[.slice Ao40 t278.length co40] 29 (0, 0))) ∧ (w'.heap[gb286]? = some (.cells #[.slice Ao46 t302.length co46] 29 (0, 0))) ∧ (w'.heap[gb295]? = some (.cells #[.slice Ao57 t291.length co57] 29 (0, 0))) ∧ (w'.heap[s_.2.2]? = some (.cells #[.slice none 0 0] 29 (0, 0))) ∧ (w.heap.size ≤ s_.2.2) ∧ (w.heap.size ≤ s_.2.2) ∧ (gb267 ≠ s_.2.2) ∧ (s_.2.2 ≠ gb267) ∧ (gb268 ≠ s_.2.2) ∧ (s_.2.2 ≠ gb268) ∧ (gb282 ≠ s_.2.2) ∧ (s_.2.2 ≠ gb282) ∧ (gb286 ≠ s_.2.2) ∧ (s_.2.2 ≠ gb286) ∧ (gb295 ≠ s_.2.2) ∧ (s_.2.2 ≠ gb295) ∧ (Below w.heap.size w w')) ?_ ?_
            rotate_left
            ·intro hCont
             refine two_ (i := 1) (j := 8) (Ni := some 86) (Nj := some 14) q15_4 q15_5 rfl rfl rfl rfl (two_of HT_.out (by kernel_rfl)) (by decide) (by decide) (fun K hK => ?_) (fun K hK => ?_)
             ·skip
              refine zH Try.func14 #[.agg #[.slice A0_0 l0_0.length c0_0]] ?_
              with_reducible refine (laws_toDisk.calls kj85 _ _ l0_0 t307 _ ?side1 ?side2 A133.out).mono ?_
              (case side1 => exact zI (Kd.C_below HR0_0.out HB.out))
              (case side2 => exact HC0_0.out)
              rintro e w146 ⟨v308, rfl, ho0, hb⟩
              refine ⟨_, rfl, ?_⟩
              have HO309 := Aside0.mk (Kd.R_lower (Kd.R_new' (Kd.R_new' (Kd.R_new' ho0 (Kd.R_lt (zo HO_283000.out))) (Kd.R_lt (zo HO_287000.out))) (Kd.R_lt (zo HO_296000.out))) (below_size (zw HB)))
              replace HO_283000 := Aside0.mk (Kd.R_elder' (zo HO_283000.out) (Kd.R_base ho0) hb)
              replace HO_287000 := Aside0.mk (Kd.R_elder' (zo HO_287000.out) (Kd.R_base ho0) hb)
              replace HO_296000 := Aside0.mk (Kd.R_elder' (zo HO_296000.out) (Kd.R_base ho0) hb)
              replace BK267 := zb BK267 hb
              replace BK268 := zb BK268 hb
              replace BK282 := zb BK282 hb
              replace BK286 := zb BK286 hb
              replace BK295 := zb BK295 hb
              replace HB := zs HB hb
              (try clear hb)
              (try clear hb2)
              (try clear hk)
              (try clear hi)
              (try clear ho0)
              refine hK.out _ _ ⟨(blk_cell BK267.out 0).trans rfl, (blk_cell BK268.out 0).trans rfl, (blk_cell BK268.out 1).trans rfl, (blk_cell BK268.out 2).trans rfl, (blk_cell BK268.out 3).trans rfl⟩ (fun hHeld => ?_)
              clear hK K
              refine zM ?_
              refine two_ (i := 3) (j := 8) (Ni := some 88) (Nj := some 14) q15_6 q15_7 rfl rfl rfl rfl (two_of HT_.out (by kernel_rfl)) (by decide) (by decide) (fun K hK => ?_) (fun K hK => ?_)
              ·skip
               refine zH Try.func36 #[.agg #[.int .i64 a1_0, .string a1_1, .string a1_2, .string a1_3]] ?_
               with_reducible refine (laws_toAct.calls a1_0 a1_1 a1_2 a1_3 t310 t311 t312 t313 _ A134.out).mono ?_
               rintro e w147 ⟨rfl, hb⟩
               refine ⟨_, rfl, ?_⟩
               replace HO_283000 := Aside0.mk (Kd.R_below (zo HO_283000.out) hb)
               replace HO_287000 := Aside0.mk (Kd.R_below (zo HO_287000.out) hb)
               replace HO_296000 := Aside0.mk (Kd.R_below (zo HO_296000.out) hb)
               replace HO309 := Aside0.mk (Kd.R_below (zo HO309.out) hb)
               replace BK267 := zb BK267 hb
               replace BK268 := zb BK268 hb
               replace BK282 := zb BK282 hb
               replace BK286 := zb BK286 hb
               replace BK295 := zb BK295 hb
               replace HB := zs HB hb
               (try clear hb)
               (try clear hb2)
               (try clear hk)
               (try clear hi)
               obtain ⟨Ao148, co148, eo148⟩ := Kd.R_slice HO309.out
               (first | subst eo148 | (injection eo148 with f1_ f2_ f3_; have f4_ := f1_.symm; have f5_ := f3_.symm; clear f1_ f2_ f3_; subst f4_; subst f5_))
               refine hK.out _ _ ⟨(blk_cell BK267.out 0).trans rfl, (blk_cell BK268.out 0).trans rfl, (blk_cell BK268.out 1).trans rfl, (blk_cell BK268.out 2).trans rfl, (blk_cell BK268.out 3).trans rfl⟩ (fun hHeld => ?_)
               clear hK K
               refine zM ?_
               refine two_ (i := 4) (j := 8) (Ni := some 89) (Nj := some 14) q15_8 q15_9 rfl rfl rfl rfl (two_of HT_.out (by kernel_rfl)) (by decide) (by decide) (fun K hK => ?_) (fun K hK => ?_)
               ·skip
                refine zH Try.func37 #[.agg #[.slice Ao148 t307.length co148], .agg #[.int .i64 t310, .string t311, .string t312, .string t313]] ?_
                with_reducible refine (impl_DoAct.calls kj85 _ _ t307 t310 t311 t312 t313 t314 t317 _ ?side1 ?side2 A135.out).mono ?_
                (case side1 => exact zI (Kd.R_reads' HO309.out).2.2)
                (case side2 => exact (Kd.R_reads' HO309.out).2.1)
                rintro e w149 ⟨v315, rfl, ho0, hb⟩
                refine ⟨_, rfl, ?_⟩
                have HO316 := Aside0.mk (Kd.R_lower (Kd.R_new' (Kd.R_new' (Kd.R_new' (Kd.R_new' ho0 (Kd.R_lt (zo HO_283000.out))) (Kd.R_lt (zo HO_287000.out))) (Kd.R_lt (zo HO_296000.out))) (Kd.R_lt (zo HO309.out))) (below_size (zw HB)))
                replace HO_283000 := Aside0.mk (Kd.R_elder' (zo HO_283000.out) (Kd.R_base ho0) hb)
                replace HO_287000 := Aside0.mk (Kd.R_elder' (zo HO_287000.out) (Kd.R_base ho0) hb)
                replace HO_296000 := Aside0.mk (Kd.R_elder' (zo HO_296000.out) (Kd.R_base ho0) hb)
                replace HO309 := Aside0.mk (Kd.R_elder' (zo HO309.out) (Kd.R_base ho0) hb)
                replace BK267 := zb BK267 hb
                replace BK268 := zb BK268 hb
                replace BK282 := zb BK282 hb
                replace BK286 := zb BK286 hb
                replace BK295 := zb BK295 hb
                replace HB := zs HB hb
                (try clear hb)
                (try clear hb2)
                (try clear hk)
                (try clear hi)
                (try clear ho0)
                refine hK.out _ _ ⟨(blk_cell BK267.out 0).trans rfl, (blk_cell BK268.out 0).trans rfl, (blk_cell BK268.out 1).trans rfl, (blk_cell BK268.out 2).trans rfl, (blk_cell BK268.out 3).trans rfl⟩ (fun hHeld => ?_)
                clear hK K
                refine zM ?_
                refine zP 5 (some 84) q15_10 HT_ ?_
                refine zP 6 (some 90) q15_11 HT_ ?_
                refine zP 7 (some 91) q15_12 HT_ ?_
                refine one_ (i := 8) (N := some 14) q15_3 rfl rfl (one_of HT_.out (by kernel_rfl)) (by decide) (fun K hK => ?_)
                refine box_step ?hg (N := 14) ?hd (cs := #[.slice none 0 0]) (t := 29) ?hr ?_; (case hd => rfl); (case hg => rfl); (case hr => first | (go_simp; done) | (go_simp; rfl))
                intro gb318 hg w150 hbox hb
                replace HO_283000 := Aside0.mk (Kd.R_below (zo HO_283000.out) hb)
                replace HO_287000 := Aside0.mk (Kd.R_below (zo HO_287000.out) hb)
                replace HO_296000 := Aside0.mk (Kd.R_below (zo HO_296000.out) hb)
                replace HO309 := Aside0.mk (Kd.R_below (zo HO309.out) hb)
                replace HO316 := Aside0.mk (Kd.R_below (zo HO316.out) hb)
                have BK318 := Aside0.mk (hbox)
                have GW318 := zg HB hg
                have GE318 := zg HB hg
                replace HB := zs HB hb
                have NB267_318 := zl BK267 hg
                have NB318_267 := zr BK267 hg
                replace BK267 := zb BK267 hb
                have NB268_318 := zl BK268 hg
                have NB318_268 := zr BK268 hg
                replace BK268 := zb BK268 hb
                have NB282_318 := zl BK282 hg
                have NB318_282 := zr BK282 hg
                replace BK282 := zb BK282 hb
                have NB286_318 := zl BK286 hg
                have NB318_286 := zr BK286 hg
                replace BK286 := zb BK286 hb
                have NB295_318 := zl BK295 hg
                have NB318_295 := zr BK295 hg
                replace BK295 := zb BK295 hb
                clear hb hbox hg
                refine hK.out _ _ ⟨(blk_cell BK267.out 0).trans rfl, (blk_cell BK268.out 0).trans rfl, (blk_cell BK268.out 1).trans rfl, (blk_cell BK268.out 2).trans rfl, (blk_cell BK268.out 3).trans rfl⟩ (fun hHeld => ?_)
                clear hK K
                refine zM ?_
                exact norm_ (by simp only [putAll, Act.put, zA, zB, zC]) (hCont (.slice Ao148 t307.length co148, v315, gb318) _ ⟨hHeld, (zo (Kd.R_mono HO309.out (fun _ hk => ⟨hk.2, ⟨hk.1.1.1.2, ⟨hk.1.1.2, hk.1.2⟩⟩⟩))), (zo (Kd.R_mono HO316.out (fun _ hk => ⟨hk.2, ⟨hk.1.1.1.2, ⟨hk.1.1.2, hk.1.2⟩⟩⟩))), (zo (Kd.R_mono HO_283000.out (fun _ hk => ⟨hk.1.2, ⟨hk.2, ⟨hk.1.1.1, hk.1.1.2⟩⟩⟩))), (zo (Kd.R_mono HO_287000.out (fun _ hk => ⟨hk.1.2, ⟨hk.2, ⟨hk.1.1.1, hk.1.1.2⟩⟩⟩))), (zo (Kd.R_mono HO_296000.out (fun _ hk => ⟨hk.1.2, ⟨hk.2, ⟨hk.1.1.1, hk.1.1.2⟩⟩⟩))), (zk BK267), (zk BK268), (zk BK282), (zk BK286), (zk BK295), (zk BK318), GW318.out, GE318.out, NB267_318.out, NB318_267.out, NB268_318.out, NB318_268.out, NB282_318.out, NB318_282.out, NB286_318.out, NB318_286.out, NB295_318.out, NB318_295.out, (zw HB)⟩)
               ·skip
                refine box_step ?hg (N := 14) ?hd (cs := #[.slice none 0 0]) (t := 29) ?hr ?_; (case hd => rfl); (case hg => rfl); (case hr => first | (go_simp; done) | (go_simp; rfl))
                intro gb318 hg w148 hbox hb
                replace HO_283000 := Aside0.mk (Kd.R_below (zo HO_283000.out) hb)
                replace HO_287000 := Aside0.mk (Kd.R_below (zo HO_287000.out) hb)
                replace HO_296000 := Aside0.mk (Kd.R_below (zo HO_296000.out) hb)
                replace HO309 := Aside0.mk (Kd.R_below (zo HO309.out) hb)
                have BK318 := Aside0.mk (hbox)
                have GW318 := zg HB hg
                have GE318 := zg HB hg
                replace HB := zs HB hb
                have NB267_318 := zl BK267 hg
                have NB318_267 := zr BK267 hg
                replace BK267 := zb BK267 hb
                have NB268_318 := zl BK268 hg
                have NB318_268 := zr BK268 hg
                replace BK268 := zb BK268 hb
                have NB282_318 := zl BK282 hg
                have NB318_282 := zr BK282 hg
                replace BK282 := zb BK282 hb
                have NB286_318 := zl BK286 hg
                have NB318_286 := zr BK286 hg
                replace BK286 := zb BK286 hb
                have NB295_318 := zl BK295 hg
                have NB318_295 := zr BK295 hg
                replace BK295 := zb BK295 hb
                clear hb hbox hg
                obtain ⟨Ao149, co149, eo149⟩ := Kd.R_slice HO309.out
                (first | subst eo149 | (injection eo149 with f1_ f2_ f3_; have f4_ := f1_.symm; have f5_ := f3_.symm; clear f1_ f2_ f3_; subst f4_; subst f5_))
                refine hK.out _ _ ⟨(blk_cell BK267.out 0).trans rfl, (blk_cell BK268.out 0).trans rfl, (blk_cell BK268.out 1).trans rfl, (blk_cell BK268.out 2).trans rfl, (blk_cell BK268.out 3).trans rfl⟩ (fun hHeld => ?_)
                clear hK K
                refine zM ?_
                refine one_ (i := 4) (N := some 89) q15_13 rfl rfl (one_of HT_.out (by kernel_rfl)) (by decide) (fun K hK => ?_)
                refine zH Try.func37 #[.agg #[.slice Ao149 t307.length co149], .agg #[.int .i64 t310, .string t311, .string t312, .string t313]] ?_
                with_reducible refine (impl_DoAct.calls kj85 _ _ t307 t310 t311 t312 t313 t314 t317 _ ?side1 ?side2 A135.out).mono ?_
                (case side1 => exact zI (Kd.R_reads' HO309.out).2.2)
                (case side2 => exact (Kd.R_reads' HO309.out).2.1)
                rintro e w150 ⟨v315, rfl, ho0, hb⟩
                refine ⟨_, rfl, ?_⟩
                have HO316 := Aside0.mk (Kd.R_lower (Kd.R_new' (Kd.R_new' (Kd.R_new' (Kd.R_new' ho0 (Kd.R_lt (zo HO_283000.out))) (Kd.R_lt (zo HO_287000.out))) (Kd.R_lt (zo HO_296000.out))) (Kd.R_lt (zo HO309.out))) (below_size (zw HB)))
                replace HO_283000 := Aside0.mk (Kd.R_elder' (zo HO_283000.out) (Kd.R_base ho0) hb)
                replace HO_287000 := Aside0.mk (Kd.R_elder' (zo HO_287000.out) (Kd.R_base ho0) hb)
                replace HO_296000 := Aside0.mk (Kd.R_elder' (zo HO_296000.out) (Kd.R_base ho0) hb)
                replace HO309 := Aside0.mk (Kd.R_elder' (zo HO309.out) (Kd.R_base ho0) hb)
                replace BK267 := zb BK267 hb
                replace BK268 := zb BK268 hb
                replace BK282 := zb BK282 hb
                replace BK286 := zb BK286 hb
                replace BK295 := zb BK295 hb
                replace BK318 := zb BK318 hb
                replace HB := zs HB hb
                (try clear hb)
                (try clear hb2)
                (try clear hk)
                (try clear hi)
                (try clear ho0)
                refine hK.out _ _ ⟨(blk_cell BK267.out 0).trans rfl, (blk_cell BK268.out 0).trans rfl, (blk_cell BK268.out 1).trans rfl, (blk_cell BK268.out 2).trans rfl, (blk_cell BK268.out 3).trans rfl⟩ (fun hHeld => ?_)
                clear hK K
                refine zM ?_
                refine zP 5 (some 84) q15_14 HT_ ?_
                refine zP 6 (some 90) q15_15 HT_ ?_
                refine zP 7 (some 91) q15_3 HT_ ?_
                exact norm_ (by simp only [putAll, Act.put, zA, zB, zC]) (hCont (.slice Ao149 t307.length co149, v315, gb318) _ ⟨hHeld, (zo (Kd.R_mono HO309.out (fun _ hk => ⟨hk.2, ⟨hk.1.1.1.2, ⟨hk.1.1.2, hk.1.2⟩⟩⟩))), (zo (Kd.R_mono HO316.out (fun _ hk => ⟨hk.2, ⟨hk.1.1.1.2, ⟨hk.1.1.2, hk.1.2⟩⟩⟩))), (zo (Kd.R_mono HO_283000.out (fun _ hk => ⟨hk.1.2, ⟨hk.2, ⟨hk.1.1.1, hk.1.1.2⟩⟩⟩))), (zo (Kd.R_mono HO_287000.out (fun _ hk => ⟨hk.1.2, ⟨hk.2, ⟨hk.1.1.1, hk.1.1.2⟩⟩⟩))), (zo (Kd.R_mono HO_296000.out (fun _ hk => ⟨hk.1.2, ⟨hk.2, ⟨hk.1.1.1, hk.1.1.2⟩⟩⟩))), (zk BK267), (zk BK268), (zk BK282), (zk BK286), (zk BK295), (zk BK318), GW318.out, GE318.out, NB267_318.out, NB318_267.out, NB268_318.out, NB318_268.out, NB282_318.out, NB318_282.out, NB286_318.out, NB318_286.out, NB295_318.out, NB318_295.out, (zw HB)⟩)
              ·skip
               refine box_step ?hg (N := 14) ?hd (cs := #[.slice none 0 0]) (t := 29) ?hr ?_; (case hd => rfl); (case hg => rfl); (case hr => first | (go_simp; done) | (go_simp; rfl))
               intro gb318 hg w147 hbox hb
               replace HO_283000 := Aside0.mk (Kd.R_below (zo HO_283000.out) hb)
               replace HO_287000 := Aside0.mk (Kd.R_below (zo HO_287000.out) hb)
               replace HO_296000 := Aside0.mk (Kd.R_below (zo HO_296000.out) hb)
               replace HO309 := Aside0.mk (Kd.R_below (zo HO309.out) hb)
               have BK318 := Aside0.mk (hbox)
               have GW318 := zg HB hg
               have GE318 := zg HB hg
               replace HB := zs HB hb
               have NB267_318 := zl BK267 hg
               have NB318_267 := zr BK267 hg
               replace BK267 := zb BK267 hb
               have NB268_318 := zl BK268 hg
               have NB318_268 := zr BK268 hg
               replace BK268 := zb BK268 hb
               have NB282_318 := zl BK282 hg
               have NB318_282 := zr BK282 hg
               replace BK282 := zb BK282 hb
               have NB286_318 := zl BK286 hg
               have NB318_286 := zr BK286 hg
               replace BK286 := zb BK286 hb
               have NB295_318 := zl BK295 hg
               have NB318_295 := zr BK295 hg
               replace BK295 := zb BK295 hb
               clear hb hbox hg
               refine hK.out _ _ ⟨(blk_cell BK267.out 0).trans rfl, (blk_cell BK268.out 0).trans rfl, (blk_cell BK268.out 1).trans rfl, (blk_cell BK268.out 2).trans rfl, (blk_cell BK268.out 3).trans rfl⟩ (fun hHeld => ?_)
               clear hK K
               refine zM ?_
               refine one_ (i := 3) (N := some 88) q15_9 rfl rfl (one_of HT_.out (by kernel_rfl)) (by decide) (fun K hK => ?_)
               refine zH Try.func36 #[.agg #[.int .i64 a1_0, .string a1_1, .string a1_2, .string a1_3]] ?_
               with_reducible refine (laws_toAct.calls a1_0 a1_1 a1_2 a1_3 t310 t311 t312 t313 _ A134.out).mono ?_
               rintro e w148 ⟨rfl, hb⟩
               refine ⟨_, rfl, ?_⟩
               replace HO_283000 := Aside0.mk (Kd.R_below (zo HO_283000.out) hb)
               replace HO_287000 := Aside0.mk (Kd.R_below (zo HO_287000.out) hb)
               replace HO_296000 := Aside0.mk (Kd.R_below (zo HO_296000.out) hb)
               replace HO309 := Aside0.mk (Kd.R_below (zo HO309.out) hb)
               replace BK267 := zb BK267 hb
               replace BK268 := zb BK268 hb
               replace BK282 := zb BK282 hb
               replace BK286 := zb BK286 hb
               replace BK295 := zb BK295 hb
               replace BK318 := zb BK318 hb
               replace HB := zs HB hb
               (try clear hb)
               (try clear hb2)
               (try clear hk)
               (try clear hi)
               obtain ⟨Ao149, co149, eo149⟩ := Kd.R_slice HO309.out
               (first | subst eo149 | (injection eo149 with f1_ f2_ f3_; have f4_ := f1_.symm; have f5_ := f3_.symm; clear f1_ f2_ f3_; subst f4_; subst f5_))
               refine hK.out _ _ ⟨(blk_cell BK267.out 0).trans rfl, (blk_cell BK268.out 0).trans rfl, (blk_cell BK268.out 1).trans rfl, (blk_cell BK268.out 2).trans rfl, (blk_cell BK268.out 3).trans rfl⟩ (fun hHeld => ?_)
               clear hK K
               refine zM ?_
               refine one_ (i := 4) (N := some 89) q15_13 rfl rfl (one_of HT_.out (by kernel_rfl)) (by decide) (fun K hK => ?_)
               refine zH Try.func37 #[.agg #[.slice Ao149 t307.length co149], .agg #[.int .i64 t310, .string t311, .string t312, .string t313]] ?_
               with_reducible refine (impl_DoAct.calls kj85 _ _ t307 t310 t311 t312 t313 t314 t317 _ ?side1 ?side2 A135.out).mono ?_
               (case side1 => exact zI (Kd.R_reads' HO309.out).2.2)
               (case side2 => exact (Kd.R_reads' HO309.out).2.1)
               rintro e w150 ⟨v315, rfl, ho0, hb⟩
               refine ⟨_, rfl, ?_⟩
               have HO316 := Aside0.mk (Kd.R_lower (Kd.R_new' (Kd.R_new' (Kd.R_new' (Kd.R_new' ho0 (Kd.R_lt (zo HO_283000.out))) (Kd.R_lt (zo HO_287000.out))) (Kd.R_lt (zo HO_296000.out))) (Kd.R_lt (zo HO309.out))) (below_size (zw HB)))
               replace HO_283000 := Aside0.mk (Kd.R_elder' (zo HO_283000.out) (Kd.R_base ho0) hb)
               replace HO_287000 := Aside0.mk (Kd.R_elder' (zo HO_287000.out) (Kd.R_base ho0) hb)
               replace HO_296000 := Aside0.mk (Kd.R_elder' (zo HO_296000.out) (Kd.R_base ho0) hb)
               replace HO309 := Aside0.mk (Kd.R_elder' (zo HO309.out) (Kd.R_base ho0) hb)
               replace BK267 := zb BK267 hb
               replace BK268 := zb BK268 hb
               replace BK282 := zb BK282 hb
               replace BK286 := zb BK286 hb
               replace BK295 := zb BK295 hb
               replace BK318 := zb BK318 hb
               replace HB := zs HB hb
               (try clear hb)
               (try clear hb2)
               (try clear hk)
               (try clear hi)
               (try clear ho0)
               refine hK.out _ _ ⟨(blk_cell BK267.out 0).trans rfl, (blk_cell BK268.out 0).trans rfl, (blk_cell BK268.out 1).trans rfl, (blk_cell BK268.out 2).trans rfl, (blk_cell BK268.out 3).trans rfl⟩ (fun hHeld => ?_)
               clear hK K
               refine zM ?_
               refine zP 5 (some 84) q15_14 HT_ ?_
               refine zP 6 (some 90) q15_15 HT_ ?_
               refine zP 7 (some 91) q15_3 HT_ ?_
               exact norm_ (by simp only [putAll, Act.put, zA, zB, zC]) (hCont (.slice Ao149 t307.length co149, v315, gb318) _ ⟨hHeld, (zo (Kd.R_mono HO309.out (fun _ hk => ⟨hk.2, ⟨hk.1.1.1.2, ⟨hk.1.1.2, hk.1.2⟩⟩⟩))), (zo (Kd.R_mono HO316.out (fun _ hk => ⟨hk.2, ⟨hk.1.1.1.2, ⟨hk.1.1.2, hk.1.2⟩⟩⟩))), (zo (Kd.R_mono HO_283000.out (fun _ hk => ⟨hk.1.2, ⟨hk.2, ⟨hk.1.1.1, hk.1.1.2⟩⟩⟩))), (zo (Kd.R_mono HO_287000.out (fun _ hk => ⟨hk.1.2, ⟨hk.2, ⟨hk.1.1.1, hk.1.1.2⟩⟩⟩))), (zo (Kd.R_mono HO_296000.out (fun _ hk => ⟨hk.1.2, ⟨hk.2, ⟨hk.1.1.1, hk.1.1.2⟩⟩⟩))), (zk BK267), (zk BK268), (zk BK282), (zk BK286), (zk BK295), (zk BK318), GW318.out, GE318.out, NB267_318.out, NB318_267.out, NB268_318.out, NB318_268.out, NB282_318.out, NB318_282.out, NB286_318.out, NB318_286.out, NB295_318.out, NB318_295.out, (zw HB)⟩)
             ·skip
              refine box_step ?hg (N := 14) ?hd (cs := #[.slice none 0 0]) (t := 29) ?hr ?_; (case hd => rfl); (case hg => rfl); (case hr => first | (go_simp; done) | (go_simp; rfl))
              intro gb318 hg w146 hbox hb
              replace HO_283000 := Aside0.mk (Kd.R_below (zo HO_283000.out) hb)
              replace HO_287000 := Aside0.mk (Kd.R_below (zo HO_287000.out) hb)
              replace HO_296000 := Aside0.mk (Kd.R_below (zo HO_296000.out) hb)
              have BK318 := Aside0.mk (hbox)
              have GW318 := zg HB hg
              have GE318 := zg HB hg
              replace HB := zs HB hb
              have NB267_318 := zl BK267 hg
              have NB318_267 := zr BK267 hg
              replace BK267 := zb BK267 hb
              have NB268_318 := zl BK268 hg
              have NB318_268 := zr BK268 hg
              replace BK268 := zb BK268 hb
              have NB282_318 := zl BK282 hg
              have NB318_282 := zr BK282 hg
              replace BK282 := zb BK282 hb
              have NB286_318 := zl BK286 hg
              have NB318_286 := zr BK286 hg
              replace BK286 := zb BK286 hb
              have NB295_318 := zl BK295 hg
              have NB318_295 := zr BK295 hg
              replace BK295 := zb BK295 hb
              clear hb hbox hg
              refine hK.out _ _ ⟨(blk_cell BK267.out 0).trans rfl, (blk_cell BK268.out 0).trans rfl, (blk_cell BK268.out 1).trans rfl, (blk_cell BK268.out 2).trans rfl, (blk_cell BK268.out 3).trans rfl⟩ (fun hHeld => ?_)
              clear hK K
              refine zM ?_
              refine one_ (i := 1) (N := some 86) q15_7 rfl rfl (one_of HT_.out (by kernel_rfl)) (by decide) (fun K hK => ?_)
              refine zH Try.func14 #[.agg #[.slice A0_0 l0_0.length c0_0]] ?_
              with_reducible refine (laws_toDisk.calls kj85 _ _ l0_0 t307 _ ?side1 ?side2 A133.out).mono ?_
              (case side1 => exact zI (Kd.C_below HR0_0.out HB.out))
              (case side2 => exact HC0_0.out)
              rintro e w147 ⟨v308, rfl, ho0, hb⟩
              refine ⟨_, rfl, ?_⟩
              have HO309 := Aside0.mk (Kd.R_lower (Kd.R_new' (Kd.R_new' (Kd.R_new' ho0 (Kd.R_lt (zo HO_283000.out))) (Kd.R_lt (zo HO_287000.out))) (Kd.R_lt (zo HO_296000.out))) (below_size (zw HB)))
              replace HO_283000 := Aside0.mk (Kd.R_elder' (zo HO_283000.out) (Kd.R_base ho0) hb)
              replace HO_287000 := Aside0.mk (Kd.R_elder' (zo HO_287000.out) (Kd.R_base ho0) hb)
              replace HO_296000 := Aside0.mk (Kd.R_elder' (zo HO_296000.out) (Kd.R_base ho0) hb)
              replace BK267 := zb BK267 hb
              replace BK268 := zb BK268 hb
              replace BK282 := zb BK282 hb
              replace BK286 := zb BK286 hb
              replace BK295 := zb BK295 hb
              replace BK318 := zb BK318 hb
              replace HB := zs HB hb
              (try clear hb)
              (try clear hb2)
              (try clear hk)
              (try clear hi)
              (try clear ho0)
              refine hK.out _ _ ⟨(blk_cell BK267.out 0).trans rfl, (blk_cell BK268.out 0).trans rfl, (blk_cell BK268.out 1).trans rfl, (blk_cell BK268.out 2).trans rfl, (blk_cell BK268.out 3).trans rfl⟩ (fun hHeld => ?_)
              clear hK K
              refine zM ?_
              refine one_ (i := 3) (N := some 88) q15_9 rfl rfl (one_of HT_.out (by kernel_rfl)) (by decide) (fun K hK => ?_)
              refine zH Try.func36 #[.agg #[.int .i64 a1_0, .string a1_1, .string a1_2, .string a1_3]] ?_
              with_reducible refine (laws_toAct.calls a1_0 a1_1 a1_2 a1_3 t310 t311 t312 t313 _ A134.out).mono ?_
              rintro e w148 ⟨rfl, hb⟩
              refine ⟨_, rfl, ?_⟩
              replace HO_283000 := Aside0.mk (Kd.R_below (zo HO_283000.out) hb)
              replace HO_287000 := Aside0.mk (Kd.R_below (zo HO_287000.out) hb)
              replace HO_296000 := Aside0.mk (Kd.R_below (zo HO_296000.out) hb)
              replace HO309 := Aside0.mk (Kd.R_below (zo HO309.out) hb)
              replace BK267 := zb BK267 hb
              replace BK268 := zb BK268 hb
              replace BK282 := zb BK282 hb
              replace BK286 := zb BK286 hb
              replace BK295 := zb BK295 hb
              replace BK318 := zb BK318 hb
              replace HB := zs HB hb
              (try clear hb)
              (try clear hb2)
              (try clear hk)
              (try clear hi)
              obtain ⟨Ao149, co149, eo149⟩ := Kd.R_slice HO309.out
              (first | subst eo149 | (injection eo149 with f1_ f2_ f3_; have f4_ := f1_.symm; have f5_ := f3_.symm; clear f1_ f2_ f3_; subst f4_; subst f5_))
              refine hK.out _ _ ⟨(blk_cell BK267.out 0).trans rfl, (blk_cell BK268.out 0).trans rfl, (blk_cell BK268.out 1).trans rfl, (blk_cell BK268.out 2).trans rfl, (blk_cell BK268.out 3).trans rfl⟩ (fun hHeld => ?_)
              clear hK K
              refine zM ?_
              refine one_ (i := 4) (N := some 89) q15_13 rfl rfl (one_of HT_.out (by kernel_rfl)) (by decide) (fun K hK => ?_)
              refine zH Try.func37 #[.agg #[.slice Ao149 t307.length co149], .agg #[.int .i64 t310, .string t311, .string t312, .string t313]] ?_
              with_reducible refine (impl_DoAct.calls kj85 _ _ t307 t310 t311 t312 t313 t314 t317 _ ?side1 ?side2 A135.out).mono ?_
              (case side1 => exact zI (Kd.R_reads' HO309.out).2.2)
              (case side2 => exact (Kd.R_reads' HO309.out).2.1)
              rintro e w150 ⟨v315, rfl, ho0, hb⟩
              refine ⟨_, rfl, ?_⟩
              have HO316 := Aside0.mk (Kd.R_lower (Kd.R_new' (Kd.R_new' (Kd.R_new' (Kd.R_new' ho0 (Kd.R_lt (zo HO_283000.out))) (Kd.R_lt (zo HO_287000.out))) (Kd.R_lt (zo HO_296000.out))) (Kd.R_lt (zo HO309.out))) (below_size (zw HB)))
              replace HO_283000 := Aside0.mk (Kd.R_elder' (zo HO_283000.out) (Kd.R_base ho0) hb)
              replace HO_287000 := Aside0.mk (Kd.R_elder' (zo HO_287000.out) (Kd.R_base ho0) hb)
              replace HO_296000 := Aside0.mk (Kd.R_elder' (zo HO_296000.out) (Kd.R_base ho0) hb)
              replace HO309 := Aside0.mk (Kd.R_elder' (zo HO309.out) (Kd.R_base ho0) hb)
              replace BK267 := zb BK267 hb
              replace BK268 := zb BK268 hb
              replace BK282 := zb BK282 hb
              replace BK286 := zb BK286 hb
              replace BK295 := zb BK295 hb
              replace BK318 := zb BK318 hb
              replace HB := zs HB hb
              (try clear hb)
              (try clear hb2)
              (try clear hk)
              (try clear hi)
              (try clear ho0)
              refine hK.out _ _ ⟨(blk_cell BK267.out 0).trans rfl, (blk_cell BK268.out 0).trans rfl, (blk_cell BK268.out 1).trans rfl, (blk_cell BK268.out 2).trans rfl, (blk_cell BK268.out 3).trans rfl⟩ (fun hHeld => ?_)
              clear hK K
              refine zM ?_
              refine zP 5 (some 84) q15_14 HT_ ?_
              refine zP 6 (some 90) q15_15 HT_ ?_
              refine zP 7 (some 91) q15_3 HT_ ?_
              exact norm_ (by simp only [putAll, Act.put, zA, zB, zC]) (hCont (.slice Ao149 t307.length co149, v315, gb318) _ ⟨hHeld, (zo (Kd.R_mono HO309.out (fun _ hk => ⟨hk.2, ⟨hk.1.1.1.2, ⟨hk.1.1.2, hk.1.2⟩⟩⟩))), (zo (Kd.R_mono HO316.out (fun _ hk => ⟨hk.2, ⟨hk.1.1.1.2, ⟨hk.1.1.2, hk.1.2⟩⟩⟩))), (zo (Kd.R_mono HO_283000.out (fun _ hk => ⟨hk.1.2, ⟨hk.2, ⟨hk.1.1.1, hk.1.1.2⟩⟩⟩))), (zo (Kd.R_mono HO_287000.out (fun _ hk => ⟨hk.1.2, ⟨hk.2, ⟨hk.1.1.1, hk.1.1.2⟩⟩⟩))), (zo (Kd.R_mono HO_296000.out (fun _ hk => ⟨hk.1.2, ⟨hk.2, ⟨hk.1.1.1, hk.1.1.2⟩⟩⟩))), (zk BK267), (zk BK268), (zk BK282), (zk BK286), (zk BK295), (zk BK318), GW318.out, GE318.out, NB267_318.out, NB318_267.out, NB268_318.out, NB318_268.out, NB282_318.out, NB318_282.out, NB286_318.out, NB318_286.out, NB295_318.out, NB318_295.out, (zw HB)⟩)
            rintro ⟨v308, v315, gb318⟩ w151 ⟨hS_, h0_, h1_, h2_, h3_, h4_, h5_, h6_, h7_, h8_, h9_, h10_, h11_, h12_, h13_, h14_, h15_, h16_, h17_, h18_, h19_, h20_, h21_, h22_, h23_⟩
            have n0_ : Aside0 (Kd.R k45 45 w151 w.heap.size (fun k_ => some k_ ≠ (v315 : Value).ownBlock ∧ some k_ ≠ (.slice Ao40 t278.length co40 : Value).ownBlock ∧ some k_ ≠ (.slice Ao46 t302.length co46 : Value).ownBlock ∧ some k_ ≠ (.slice Ao57 t291.length co57 : Value).ownBlock) v308 t307) := ⟨h0_⟩
            have n1_ : Aside0 (Kd.R k45 45 w151 w.heap.size (fun k_ => some k_ ≠ (v308 : Value).ownBlock ∧ some k_ ≠ (.slice Ao40 t278.length co40 : Value).ownBlock ∧ some k_ ≠ (.slice Ao46 t302.length co46 : Value).ownBlock ∧ some k_ ≠ (.slice Ao57 t291.length co57 : Value).ownBlock) v315 t314) := ⟨h1_⟩
            have n2_ : Aside0 (Kd.R k45 45 w151 w.heap.size (fun k_ => some k_ ≠ (v308 : Value).ownBlock ∧ some k_ ≠ (v315 : Value).ownBlock ∧ some k_ ≠ (.slice Ao46 t302.length co46 : Value).ownBlock ∧ some k_ ≠ (.slice Ao57 t291.length co57 : Value).ownBlock) (.slice Ao40 t278.length co40) t278) := ⟨h2_⟩
            have n3_ : Aside0 (Kd.R k45 45 w151 w.heap.size (fun k_ => some k_ ≠ (v308 : Value).ownBlock ∧ some k_ ≠ (v315 : Value).ownBlock ∧ some k_ ≠ (.slice Ao40 t278.length co40 : Value).ownBlock ∧ some k_ ≠ (.slice Ao57 t291.length co57 : Value).ownBlock) (.slice Ao46 t302.length co46) t302) := ⟨h3_⟩
            have n4_ : Aside0 (Kd.R k45 45 w151 w.heap.size (fun k_ => some k_ ≠ (v308 : Value).ownBlock ∧ some k_ ≠ (v315 : Value).ownBlock ∧ some k_ ≠ (.slice Ao40 t278.length co40 : Value).ownBlock ∧ some k_ ≠ (.slice Ao46 t302.length co46 : Value).ownBlock) (.slice Ao57 t291.length co57) t305) := ⟨h4_⟩
            have n5_ : Aside0 (w151.heap[gb267]? = some (.cells #[.slice A0_0 l0_0.length c0_0] 24 (0, 0))) := ⟨h5_⟩
            have n6_ : Aside0 (w151.heap[gb268]? = some (.cells #[.int .i64 a1_0, .string a1_1, .string a1_2, .string a1_3] 52 (0, 0))) := ⟨h6_⟩
            have n7_ : Aside0 (w151.heap[gb282]? = some (.cells #[.slice Ao40 t278.length co40] 29 (0, 0))) := ⟨h7_⟩
            have n8_ : Aside0 (w151.heap[gb286]? = some (.cells #[.slice Ao46 t302.length co46] 29 (0, 0))) := ⟨h8_⟩
            have n9_ : Aside0 (w151.heap[gb295]? = some (.cells #[.slice Ao57 t291.length co57] 29 (0, 0))) := ⟨h9_⟩
            have n10_ : Aside0 (w151.heap[gb318]? = some (.cells #[.slice none 0 0] 29 (0, 0))) := ⟨h10_⟩
            have n11_ : Aside0 (w.heap.size ≤ gb318) := ⟨h11_⟩
            have n12_ : Aside0 (w.heap.size ≤ gb318) := ⟨h12_⟩
            have n13_ : Aside0 (gb267 ≠ gb318) := ⟨h13_⟩
            have n14_ : Aside0 (gb318 ≠ gb267) := ⟨h14_⟩
            have n15_ : Aside0 (gb268 ≠ gb318) := ⟨h15_⟩
            have n16_ : Aside0 (gb318 ≠ gb268) := ⟨h16_⟩
            have n17_ : Aside0 (gb282 ≠ gb318) := ⟨h17_⟩
            have n18_ : Aside0 (gb318 ≠ gb282) := ⟨h18_⟩
            have n19_ : Aside0 (gb286 ≠ gb318) := ⟨h19_⟩
            have n20_ : Aside0 (gb318 ≠ gb286) := ⟨h20_⟩
            have n21_ : Aside0 (gb295 ≠ gb318) := ⟨h21_⟩
            have n22_ : Aside0 (gb318 ≠ gb295) := ⟨h22_⟩
            have n23_ : Aside0 (Below w.heap.size w w151) := ⟨h23_⟩
            clear HO_283000
            clear HO_287000
            clear HO_296000
            clear BK267
            clear BK268
            clear BK282
            clear BK286
            clear BK295
            clear HB
            clear h0_ h1_ h2_ h3_ h4_ h5_ h6_ h7_ h8_ h9_ h10_ h11_ h12_ h13_ h14_ h15_ h16_ h17_ h18_ h19_ h20_ h21_ h22_ h23_
            have HO309 := n0_
            have HO316 := n1_
            have HO_283000 := n2_
            have HO_287000 := n3_
            have HO_296000 := n4_
            have BK267 := n5_
            have BK268 := n6_
            have BK282 := n7_
            have BK286 := n8_
            have BK295 := n9_
            have BK318 := n10_
            have GW318 := n11_
            have GE318 := n12_
            have NB267_318 := n13_
            have NB318_267 := n14_
            have NB268_318 := n15_
            have NB318_268 := n16_
            have NB282_318 := n17_
            have NB318_282 := n18_
            have NB286_318 := n19_
            have NB318_286 := n20_
            have NB295_318 := n21_
            have NB318_295 := n22_
            have HB := n23_
            clear n0_ n1_ n2_ n3_ n4_ n5_ n6_ n7_ n8_ n9_ n10_ n11_ n12_ n13_ n14_ n15_ n16_ n17_ n18_ n19_ n20_ n21_ n22_ n23_
            have hHeld : w151.cell? ⟨gb267, 0, none⟩ = some (.slice A0_0 l0_0.length c0_0) ∧ w151.cell? ⟨gb268, 0, none⟩ = some (.int .i64 a1_0) ∧ w151.cell? ⟨gb268, 1, none⟩ = some (.string a1_1) ∧ w151.cell? ⟨gb268, 2, none⟩ = some (.string a1_2) ∧ w151.cell? ⟨gb268, 3, none⟩ = some (.string a1_3) := hS_
            obtain ⟨Ao152, co152, eo152⟩ := Kd.R_slice HO316.out
            (first | subst eo152 | (injection eo152 with f1_ f2_ f3_; have f4_ := f1_.symm; have f5_ := f3_.symm; clear f1_ f2_ f3_; subst f4_; subst f5_))
            refine norm_ (a' := ?_) ?_ ?_
            rotate_left
            ·simp only [putAll, Act.put, zA, zB, zC]
             rfl
            refine one_ (i := 9) (N := none) q15_16 rfl rfl (one_of HT_.out (by kernel_rfl)) (by decide) (fun K hK => ?_)
            have hs153 : w151.cell? ⟨gb318, 0, none⟩ = some (.slice none 0 0) := (blk_cell BK318.out 0).trans rfl
            have hfs153 := blk_frozen BK318.out 0
            have hns153_0 := NB267_318.out
            have hns153_1 := NB268_318.out
            have hns153_2 := NB282_318.out
            have hns153_3 := NB286_318.out
            have hns153_4 := NB295_318.out
            have hms153_0 := NB318_267.out
            have hms153_1 := NB318_268.out
            have hms153_2 := NB318_282.out
            have hms153_3 := NB318_286.out
            have hms153_4 := NB318_295.out
            refine skip_ (w1 := ?_) (by rfl) rfl ?_ ?_
            rotate_left
            ·go_simp
             rfl
            refine hK.out _ _ ⟨((cell_far (p := ⟨gb318, _, none⟩) NB267_318.out _).trans (hHeld.1)), ((cell_far (p := ⟨gb318, _, none⟩) NB268_318.out _).trans (hHeld.2.1)), ((cell_far (p := ⟨gb318, _, none⟩) NB268_318.out _).trans (hHeld.2.2.1)), ((cell_far (p := ⟨gb318, _, none⟩) NB268_318.out _).trans (hHeld.2.2.2.1)), ((cell_far (p := ⟨gb318, _, none⟩) NB268_318.out _).trans (hHeld.2.2.2.2))⟩ (fun hHeld => ?_)
            clear hK K
            refine zP 10 (some 15) q15_17 HT_ ?_
            refine done_ (done_of HT_.out (by kernel_rfl)) ?_
            go_upto_region 28 with (fail)
            go_cut [100] (fun v100 wc => ∃ (kq : Nat) (x100_135 : Bool), v100 = .bool x100_135 ∧ Aside0 (laws_FnExactDoAct.j2 kq t304 x100_135 t305 = some r) ∧ Aside0 (kq ≤ kj85) ∧ Aside0 (Kd.R k45 45 wc w.heap.size (fun k_ => some k_ ≠ ((.slice Ao46 t302.length co46) : Value).ownBlock ∧ some k_ ≠ ((.slice Ao57 t291.length co57) : Value).ownBlock ∧ some k_ ≠ ((.slice Ao152 t314.length co152) : Value).ownBlock) (.slice Ao40 t278.length co40) t278) ∧ Aside0 (Kd.R k45 45 wc w.heap.size (fun k_ => some k_ ≠ ((.slice Ao40 t278.length co40) : Value).ownBlock ∧ some k_ ≠ ((.slice Ao57 t291.length co57) : Value).ownBlock ∧ some k_ ≠ ((.slice Ao152 t314.length co152) : Value).ownBlock) (.slice Ao46 t302.length co46) t302) ∧ Aside0 (Kd.R k45 45 wc w.heap.size (fun k_ => some k_ ≠ ((.slice Ao40 t278.length co40) : Value).ownBlock ∧ some k_ ≠ ((.slice Ao46 t302.length co46) : Value).ownBlock ∧ some k_ ≠ ((.slice Ao152 t314.length co152) : Value).ownBlock) (.slice Ao57 t291.length co57) t305) ∧ Aside0 (Kd.R k45 45 wc w.heap.size (fun k_ => some k_ ≠ ((.slice Ao40 t278.length co40) : Value).ownBlock ∧ some k_ ≠ ((.slice Ao46 t302.length co46) : Value).ownBlock ∧ some k_ ≠ ((.slice Ao57 t291.length co57) : Value).ownBlock) (.slice Ao152 t314.length co152) t314) ∧ Aside0 (wc.heap[gb267]? = some (.cells #[(.slice A0_0 l0_0.length c0_0)] 24 (0, 0))) ∧ Aside0 (wc.heap[gb268]? = some (.cells #[.int .i64 a1_0, .string a1_1, .string a1_2, .string a1_3] 52 (0, 0))) ∧ Aside0 (wc.heap[gb282]? = some (.cells #[(.slice Ao40 t278.length co40)] 29 (0, 0))) ∧ Aside0 (wc.heap[gb286]? = some (.cells #[(.slice Ao46 t302.length co46)] 29 (0, 0))) ∧ Aside0 (wc.heap[gb295]? = some (.cells #[(.slice Ao57 t291.length co57)] 29 (0, 0))) ∧ Aside0 (wc.heap[gb318]? = some (.cells #[(.slice Ao152 t314.length co152)] 29 (0, 0))) ∧ Aside0 (Below w.heap.size w wc))
            case first =>
             have H := HC136.out
             clear HC136
             replace H := Option.bind_eq_some_iff.mp H
             obtain ⟨t319, A1540, H⟩ := H
             have A154 := Aside0.mk A1540
             clear A1540
             by_cases c155 : t319 = true
             ·subst c155
              rw [if_pos rfl] at H
              have H' := Aside0.mk H
              clear H
              have hnb156 := NB318_267.out
              have hnc156 := NB267_318.out
              have hnb157 := NB318_268.out
              have hnc157 := NB268_318.out
              have hnb158 := NB318_282.out
              have hnc158 := NB282_318.out
              have hnb159 := NB318_286.out
              have hnc159 := NB286_318.out
              have hnb160 := NB318_295.out
              have hnc160 := NB295_318.out
              have hcz161_0 : w151.cell? ⟨gb318, 0, none⟩ = some (.slice none 0 0) := (blk_cell BK318.out 0).trans rfl
              have hfz161_0 := blk_frozen BK318.out 0
              have hnb162 := NB282_267.out
              have hnc162 := NB267_282.out
              have hnb163 := NB282_268.out
              have hnc163 := NB268_282.out
              have hnb164 := NB282_286.out
              have hnc164 := NB286_282.out
              have hnb165 := NB282_295.out
              have hnc165 := NB295_282.out
              have hcz166_0 : w151.cell? ⟨gb282, 0, none⟩ = some (.slice Ao40 t278.length co40) := (blk_cell BK282.out 0).trans rfl
              have hfz166_0 := blk_frozen BK282.out 0
              go_wp2_with (first | ((with_reducible refine gate_callee (f := 16) rfl ?_); refine zG (some 94) Try.func16 #[.agg #[.slice Ao152 t314.length co152], .agg #[.slice Ao40 t278.length co40]] ?_; (with_reducible refine (laws_eqDisk.calls kj85 _ _ t314 _ _ t278 true _ ?side1 ?side2 ?side3 ?side4 A154.out).mono ?_); (case side1 => refine (Kd.R_reads' (e := 45) (base := w.heap.size) (ok := fun k_ => (some k_ ≠ (v308 : Value).ownBlock ∧ (some k_ ≠ (.slice Ao40 t278.length co40 : Value).ownBlock ∧ (some k_ ≠ (.slice Ao46 t302.length co46 : Value).ownBlock ∧ some k_ ≠ (.slice Ao57 t291.length co57 : Value).ownBlock)))) (n := t314.length) (c := co152) ?_).2.2; exact (zo ((Kd.R_mono (Kd.R_far (p := ⟨gb318, 0, none⟩) (Kd.R_types HO316.out BK318.out (by decide)) (fun _ hk => hk.2) (.slice Ao152 t314.length co152)) (fun _ h_ => h_.1))))); (case side2 => exact (Kd.R_reads' HO316.out).2.1); (case side3 => refine (Kd.R_reads' (e := 45) (base := w.heap.size) (ok := fun k_ => (some k_ ≠ (v308 : Value).ownBlock ∧ (some k_ ≠ (.slice Ao152 t314.length co152 : Value).ownBlock ∧ (some k_ ≠ (.slice Ao46 t302.length co46 : Value).ownBlock ∧ some k_ ≠ (.slice Ao57 t291.length co57 : Value).ownBlock)))) (n := t278.length) (c := co40) ?_).2.2; exact (zo ((Kd.R_mono (Kd.R_far (p := ⟨gb318, 0, none⟩) (Kd.R_types HO_283000.out BK318.out (by decide)) (fun _ hk => hk.2) (.slice Ao152 t314.length co152)) (fun _ h_ => h_.1))))); (case side4 => exact (Kd.R_reads' HO_283000.out).2.1); rintro e w167 ⟨rfl, hb⟩; refine ⟨_, rfl, ?_⟩; replace HO_283000 := Aside0.mk (Kd.R_below (zo ((Kd.R_mono (Kd.R_far (p := ⟨gb318, 0, none⟩) (Kd.R_types HO_283000.out BK318.out (by decide)) (fun _ hk => hk.2) (.slice Ao152 t314.length co152)) (fun _ h_ => h_.1)))) hb); replace HO_287000 := Aside0.mk (Kd.R_below (zo ((Kd.R_mono (Kd.R_far (p := ⟨gb318, 0, none⟩) (Kd.R_types HO_287000.out BK318.out (by decide)) (fun _ hk => hk.2) (.slice Ao152 t314.length co152)) (fun _ h_ => h_.1)))) hb); replace HO_296000 := Aside0.mk (Kd.R_below (zo ((Kd.R_mono (Kd.R_far (p := ⟨gb318, 0, none⟩) (Kd.R_types HO_296000.out BK318.out (by decide)) (fun _ hk => hk.2) (.slice Ao152 t314.length co152)) (fun _ h_ => h_.1)))) hb); replace HO309 := Aside0.mk (Kd.R_below (zo ((Kd.R_mono (Kd.R_far (p := ⟨gb318, 0, none⟩) (Kd.R_types HO309.out BK318.out (by decide)) (fun _ hk => hk.2) (.slice Ao152 t314.length co152)) (fun _ h_ => h_.1)))) hb); replace HO316 := Aside0.mk (Kd.R_below (zo ((Kd.R_mono (Kd.R_far (p := ⟨gb318, 0, none⟩) (Kd.R_types HO316.out BK318.out (by decide)) (fun _ hk => hk.2) (.slice Ao152 t314.length co152)) (fun _ h_ => h_.1)))) hb); replace BK267 := zbf BK267 hb; replace BK268 := zbf BK268 hb; replace BK282 := zbf BK282 hb; replace BK286 := zbf BK286 hb; replace BK295 := zbf BK295 hb; replace BK318 := Aside0.mk (blk_below (g := gb318) (o := .cells #[.slice Ao152 t314.length co152] 29 (0, 0)) (by (with_reducible repeat (first | refine blk_drewN ?_ _ | refine blk_drew ?_ | refine blk_alloc ?_ _)); refine blk_put (cs := #[.slice none 0 0]) ?_ 0 _ rfl; (with_reducible repeat (first | refine blk_drewN ?_ _ | refine blk_drew ?_ | refine blk_alloc ?_ _)); exact BK318.out) hb); replace HB := zs HB hb; clear hb))
              go_meet
              case rel => exact ⟨_, ((t317 != t281)), zf, H', ⟨by have := HJ24.out; have := HJ85.out; first | omega | exact Nat.le_refl _⟩, ⟨by (try simp only [hl287000_85]); (with_reducible repeat (first | apply Kd.R_alloc | apply Kd.R_drewN | apply Kd.R_drew)); exact Kd.R_mono HO_283000.out (fun _ hk => ⟨hk.2.2.1, ⟨hk.2.2.2, hk.2.1⟩⟩)⟩, ⟨by (try simp only [hl287000_85]); (with_reducible repeat (first | apply Kd.R_alloc | apply Kd.R_drewN | apply Kd.R_drew)); exact Kd.R_mono HO_287000.out (fun _ hk => ⟨hk.2.2.1, ⟨hk.2.2.2, hk.2.1⟩⟩)⟩, ⟨by (try simp only [hl287000_85]); (with_reducible repeat (first | apply Kd.R_alloc | apply Kd.R_drewN | apply Kd.R_drew)); exact Kd.R_mono HO_296000.out (fun _ hk => ⟨hk.2.2.1, ⟨hk.2.2.2, hk.2.1⟩⟩)⟩, ⟨by (try simp only [hl287000_85]); (with_reducible repeat (first | apply Kd.R_alloc | apply Kd.R_drewN | apply Kd.R_drew)); exact Kd.R_mono HO316.out (fun _ hk => ⟨hk.2.1, ⟨hk.2.2.1, hk.2.2.2⟩⟩)⟩, ⟨by (try simp only [hl287000_85]); (with_reducible repeat (first | refine blk_drewN ?_ _ | refine blk_drew ?_ | refine blk_alloc ?_ _)); exact BK267.out⟩, ⟨by (try simp only [hl287000_85]); (with_reducible repeat (first | refine blk_drewN ?_ _ | refine blk_drew ?_ | refine blk_alloc ?_ _)); exact BK268.out⟩, ⟨by (try simp only [hl287000_85]); (with_reducible repeat (first | refine blk_drewN ?_ _ | refine blk_drew ?_ | refine blk_alloc ?_ _)); exact BK282.out⟩, ⟨by (try simp only [hl287000_85]); (with_reducible repeat (first | refine blk_drewN ?_ _ | refine blk_drew ?_ | refine blk_alloc ?_ _)); exact BK286.out⟩, ⟨by (try simp only [hl287000_85]); (with_reducible repeat (first | refine blk_drewN ?_ _ | refine blk_drew ?_ | refine blk_alloc ?_ _)); exact BK295.out⟩, ⟨by (try simp only [hl287000_85]); (with_reducible repeat (first | refine blk_drewN ?_ _ | refine blk_drew ?_ | refine blk_alloc ?_ _)); exact BK318.out⟩, ⟨zw HB⟩⟩
             ·replace c155 := Bool.eq_false_iff.mpr c155
              subst c155
              rw [if_neg (show ¬ (false = true) by decide)] at H
              exact absurd (H.trans (congrArg some HR_.out)) laws_FnExactDoAct.j2_t
            case rest =>
             clear HC136
             try clear c1
             try clear p2
             try clear c3
             try clear c14
             try clear c15
             try clear c16
             try clear c17
             try clear c36
             try clear c37
             try clear c155
             try clear c156
             try clear c157
             try clear c158
             try clear c159
             try clear c160
             try clear c162
             try clear c163
             try clear c164
             try clear c165
             try clear c168
             try clear c169
             try clear c170
             try clear c171
             try clear c172
             try clear c174
             try clear c175
             try clear c176
             try clear c177
             try clear hcz161_0
             try clear hcz166_0
             try clear hcz173_0
             try clear hcz178_0
             try clear hfz161_0
             try clear hfz166_0
             try clear hfz173_0
             try clear hfz178_0
             obtain ⟨kq, x100_135, rfl, HA, HJ135, HO_283000, HO_287000, HO_296000, HO_319000, BK267, BK268, BK282, BK286, BK295, BK318, HB⟩ := hcut
             have hl296000_135 := (Kd.R_reads' HO_296000.out).1
             rw [hl296000_135] at HO_296000
             (try simp only [hl296000_135])
             (try simp only [hl296000_135] at BK267)
             (try simp only [hl296000_135] at BK268)
             (try simp only [hl296000_135] at BK282)
             (try simp only [hl296000_135] at BK286)
             (try simp only [hl296000_135] at BK295)
             (try simp only [hl296000_135] at BK318)
             (try simp only [hl296000_135] at HO_283000)
             (try simp only [hl296000_135] at HO_287000)
             (try simp only [hl296000_135] at HO_319000)
             cases kq with
             | zero => exact absurd HA.out (by simp [laws_FnExactDoAct.j2])
             | succ kj135 =>
              have H := HA.out
              clear HA
              simp only [laws_FnExactDoAct.j2] at H
              by_cases c180 : x100_135 = true
              ·subst c180
               rw [if_pos rfl] at H
               obtain rfl := Option.some.inj H
               exact absurd HR_.out (by decide)
              ·replace c180 := Bool.eq_false_iff.mpr c180
               subst c180
               rw [if_neg (show ¬ (false = true) by decide)] at H
               replace H := Option.bind_eq_some_iff.mp H
               obtain ⟨t320, A1810, H⟩ := H
               have A181 := Aside0.mk A1810
               clear A1810
               by_cases c182 : t320 < 0
               ·rw [if_pos c182] at H
                have c182b0 : decide (t320 < 0) = true := decide_eq_true c182
                clear c182
                obtain rfl := Option.some.inj H
                exact absurd HR_.out (by decide)
               ·rw [if_neg c182] at H
                have c182b0 : decide (t320 < 0) = false := decide_eq_false c182
                clear c182
                by_cases c190 : t320 = t304
                ·rw [if_pos c190] at H
                 have c190b0 : (t320 == t304) = true := beq_iff_eq.mpr c190
                 have c190b1 : (t320 != t304) = false := bne_eq_false_iff_eq.mpr c190
                 clear c190
                 obtain rfl := Option.some.inj H
                 have hnb191 := NB295_267.out
                 have hnc191 := NB267_295.out
                 have hnb192 := NB295_268.out
                 have hnc192 := NB268_295.out
                 have hnb193 := NB295_282.out
                 have hnc193 := NB282_295.out
                 have hnb194 := NB295_286.out
                 have hnc194 := NB286_295.out
                 have hnb195 := NB295_318.out
                 have hnc195 := NB318_295.out
                 have hcz196_0 : wc.cell? ⟨gb295, 0, none⟩ = some (.slice Ao57 t305.length co57) := (blk_cell BK295.out 0).trans rfl
                 have hfz196_0 := blk_frozen BK295.out 0
                 go_wp2_with (first | ((with_reducible refine gate_callee (f := 33) rfl ?_); refine zG (some 103) Try.func33 #[.agg #[.slice Ao57 t305.length co57], .int .i64 1] ?_; (with_reducible refine (laws_heldDisk.calls kj135 _ _ t305 1 t320 _ ?side1 ?side2 A181.out).mono ?_); (case side1 => exact zI (Kd.R_reads' HO_296000.out).2.2); (case side2 => exact (Kd.R_reads' HO_296000.out).2.1); rintro e w197 ⟨rfl, hb⟩; refine ⟨_, rfl, ?_⟩; replace HO_283000 := Aside0.mk (Kd.R_below (zo HO_283000.out) hb); replace HO_287000 := Aside0.mk (Kd.R_below (zo HO_287000.out) hb); replace HO_296000 := Aside0.mk (Kd.R_below (zo HO_296000.out) hb); replace HO_319000 := Aside0.mk (Kd.R_below (zo HO_319000.out) hb); replace BK267 := zb BK267 hb; replace BK268 := zb BK268 hb; replace BK282 := zb BK282 hb; replace BK286 := zb BK286 hb; replace BK295 := zb BK295 hb; replace BK318 := zb BK318 hb; replace HB := zs HB hb; clear hb))
                 go_ret
                 exact ⟨ze, zw HB⟩
                ·rw [if_neg c190] at H
                 have c190b0 : (t320 == t304) = false := beq_eq_false_iff_ne.mpr c190
                 have c190b1 : (t320 != t304) = true := bne_iff_ne.mpr c190
                 obtain rfl := Option.some.inj H
                 exact absurd HR_.out (by decide)
           ·rw [if_neg c132] at H
            have c132b0 : (t306 == t304) = false := beq_eq_false_iff_ne.mpr c132
            have c132b1 : (t306 != t304) = true := bne_iff_ne.mpr c132
            obtain rfl := Option.some.inj H
            exact absurd HR_.out (by decide)
      ·replace c84 := Bool.eq_false_iff.mpr c84
       subst c84
       rw [if_neg (show ¬ (false = true) by decide)] at H
       obtain rfl := Option.some.inj H
       exact absurd HR_.out (by decide)

end Go.Proofs.Ytdiecogmaiglaaa.PFnExactDoAct
