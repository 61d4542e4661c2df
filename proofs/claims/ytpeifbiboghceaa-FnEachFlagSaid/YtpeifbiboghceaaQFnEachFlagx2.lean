import Derived.Test.YtpeifbiboghceaaQFnEachFlagx0
import Derived.Test.YtpeifbiboghceaaQFnEachFlagx1
namespace Go.Proofs.Ytpeifbiboghceaa.PFnEachFlag
open Go.RowKit Go.Proofs.YtpeifbiboghceaaW.PrintWords Go.Proofs.YtpeifbiboghceaaW.PrintLast Go.Proofs.YtpeifbiboghceaaW.PrintMore
attribute [local go_sem] max2_int min2_int max_two min_two max_three min_three max_four min_four   -- for this text's walks alone
set_option linter.unusedVariables false
set_option linter.unusedSimpArgs false

/-! ### spec_DrawPlaces: function 11 -/
def spec_DrawPlaces.l0 : Nat → List Int → Int → List Int → Int → Int → Option (List Int)
  | 0, _, _, _, _, _ => none
  | k + 1, x4, x5, x150000, x150001, x150002 => if x5 < 12 then ((spec_l01Below.f x150000 x150001 x150002 10000).bind fun bt156 => (if x4.length < 17592186044416 then (spec_DrawPlaces.l0 k (x4 ++ [bt156.1]) (wrap64 (x5 + 1)) x150000 bt156.2.1 bt156.2.2) else (none))) else (some x4)
def spec_DrawPlaces.f (k : Nat) (l0 : List Int) : Option (List Int) := (spec_l01New.f k l0).bind fun bt146 => ((spec_l01Byte.f bt146.1 bt146.2.1 bt146.2.2).bind fun bt150 => (spec_DrawPlaces.l0 k (([] : List Int)) 0 bt146.1 bt150.2.1 bt150.2.2))
theorem spec_DrawPlaces.mono_l : ∀ k, (∀ y0 y1 y2 y3 y4, LeO (spec_DrawPlaces.l0 k y0 y1 y2 y3 y4) (spec_DrawPlaces.l0 (k + 1) y0 y1 y2 y3 y4))
  | 0 => fun _ _ _ _ _ r h => by simp [spec_DrawPlaces.l0] at h
  | k + 1 => by
    have ih0 := spec_DrawPlaces.mono_l k
    · intro y0 y1 y2 y3 y4
      unfold spec_DrawPlaces.l0
      repeat' first
      | (with_reducible exact ih0 _ _ _ _ _)
      | (with_reducible exact spec_l01New.mono _ _)
      | (with_reducible exact LeO.refl _)
      | (with_reducible exact LeO.none _)
      | (with_reducible refine LeO.ite ?_ ?_)
      | (with_reducible refine LeO.bind ?_ (fun _ => ?_))
      | exact ih0 _ _ _ _ _
      | exact spec_l01New.mono _ _
      | exact LeO.none _
      | refine LeO.ite ?_ ?_
      | refine LeO.bind ?_ (fun _ => ?_)
theorem spec_DrawPlaces.mono : ∀ a0 k, LeO (spec_DrawPlaces.f k a0) (spec_DrawPlaces.f (k + 1) a0) := by
  intro a0 k
  have ih0 := spec_DrawPlaces.mono_l k
  unfold spec_DrawPlaces.f
  repeat' first
      | (with_reducible exact ih0 _ _ _ _ _)
      | (with_reducible exact spec_l01New.mono _ _)
      | (with_reducible exact LeO.refl _)
      | (with_reducible exact LeO.none _)
      | (with_reducible refine LeO.ite ?_ ?_)
      | (with_reducible refine LeO.bind ?_ (fun _ => ?_))
      | exact ih0 _ _ _ _ _
      | exact spec_l01New.mono _ _
      | exact LeO.none _
      | refine LeO.ite ?_ ?_
      | refine LeO.bind ?_ (fun _ => ?_)
set_option maxHeartbeats 8000000 in
set_option maxRecDepth 100000 in
theorem spec_DrawPlaces.calls (k : Nat) (A0 : Option Addr) (c0 : Nat) (l0 : List Int) (r : List Int) (w : World) (hr0 : Kd.C (Kd.int .u8) w A0 l0.length l0) (hc0 : l0.length ≤ c0) (h : spec_DrawPlaces.f k l0 = some r) :
    Calls Try.prog 11 #[.slice A0 l0.length c0] w fun e w' => ∃ v0_ : Value, e = .returned (v0_) ∧ Kd.R (Kd.int .i64) 3 w' w.heap.size (fun _ => True) v0_ r ∧ Below w.heap.size w w' := by
  have HR0 := Aside0.mk hr0
  have HC0 := Aside0.mk hc0
  clear hr0 hc0
  have HB := Aside0.mk (Below.refl w.heap.size w)
  have H : ((spec_l01New.f k l0).bind fun bt146 => ((spec_l01Byte.f bt146.1 bt146.2.1 bt146.2.2).bind fun bt150 => (spec_DrawPlaces.l0 k (([] : List Int)) 0 bt146.1 bt150.2.1 bt150.2.2))) = some r := h
  clear h
  replace H := Option.bind_eq_some_iff.mp H
  obtain ⟨⟨t146, t147, t148⟩, A20, H⟩ := H
  replace H : ((spec_l01Byte.f t146 t147 t148).bind fun bt150 => (spec_DrawPlaces.l0 k (([] : List Int)) 0 t146 bt150.2.1 bt150.2.2)) = some r := H
  have A2 := Aside0.mk A20
  clear A20
  replace H := Option.bind_eq_some_iff.mp H
  obtain ⟨⟨t150, t151, t152⟩, A30, H⟩ := H
  replace H : (spec_DrawPlaces.l0 k (([] : List Int)) 0 t146 t151 t152) = some r := H
  have A3 := Aside0.mk A30
  clear A30
  obtain ⟨y153, hy153⟩ : ∃ y_ : List Int, y_ = (([] : List Int)) := ⟨_, rfl⟩
  replace H : (spec_DrawPlaces.l0 k y153 0 t146 t151 t152) = some r := by first | (rw [hy153]; with_reducible exact H) | (have H2_ := (Option.bind_some _ _).symm.trans H; rw [hy153]; with_reducible exact H2_) | (have H2_ := (Option.bind_some _ _).symm.trans H; with_reducible exact H2_) | with_reducible exact H | (rw [hy153]; exact H) | exact H
  have Ny153 := Aside0.mk hy153
  clear hy153
  have H' := Aside0.mk H
  clear H
  go_enter Try.func11, Try.ntmps11
  go_wp2_with (first | ((with_reducible refine gate_callee (f := 21) rfl ?_); refine goesL_ (some 7) rfl rfl Try.func21 (by kernel_rfl) rfl #[.slice A0 l0.length c0] rfl (by (try simp only [List.map_toArray, List.map_cons, List.map_nil]); first | done | rfl | (simp only [List.length_drop, List.length_take]; rfl)) ?_; (with_reducible refine (spec_l01New.calls k _ _ l0 t146 t147 t148 w _ ?side1 ?side2 ?side3 A2.out).mono ?_); (case side1 => repeat (first | (with_reducible first | exact HB.out | apply below_alloc | apply pw_below_drewN | apply below_drew1) | exact HB.out)); (case side2 => exact HR0.out); (case side3 => exact HC0.out); rintro e w4 ⟨g149, rfl, hi, hb, hb2⟩; refine ⟨_, rfl, ?_⟩; have n0_ := Aside0.mk (hb); have n1_ := Aside0.mk (hi); clear HB; have HB := n0_; have HI149 := n1_; clear n0_ n1_; (try clear hb); (try clear hb2); (try clear hk); (try clear hi)) | ((with_reducible refine gate_callee (f := 22) rfl ?_); refine goesL_ (some 9) rfl rfl Try.func22 (by kernel_rfl) rfl #[.pointer (some ⟨g149, 0, none⟩)] rfl (by (try simp only [List.map_toArray, List.map_cons, List.map_nil]); first | done | rfl | (simp only [List.length_drop, List.length_take]; rfl)) ?_; (with_reducible refine (spec_l01Byte.calls g149 t146 t147 t148 t150 t151 t152 w _ ?side1 ?side2 A3.out).mono ?_); (case side1 => repeat (first | (with_reducible first | exact HI149.out | apply IsS55.alloc | apply IsS55.drewN | apply IsS55.drew | apply IsS55.set_1 | apply IsS55.set_2) | exact HI149.out)); (case side2 => repeat (first | (with_reducible first | exact HB.out | apply below_alloc | apply pw_below_drewN | apply below_drew1 | refine below_set ?_ (IsS55.ge HI149.out)) | exact HB.out)); rintro e w5 ⟨rfl, hi, hb, hk⟩; refine ⟨_, rfl, ?_⟩; have n0_ := Aside0.mk (hb); have n1_ := Aside0.mk (hi); clear HB; clear HI149; have HB := n0_; have HI149 := n1_; clear n0_ n1_; (try clear hb); (try clear hb2); (try clear hk); (try clear hi)) | ((with_reducible refine gate_dst (N := 10) rfl ?_); refine Kd.R_lit (Kd.int .i64) _ 3 ?hg (N := 10) ?hd (xs := ([] : List Int)) (inner := []) (ok := fun _ => True) (okp := fun _ => True) ?hr ?hp (fun _ hk => hk) trivial (Below.refl _ _) (Nat.le_refl _) (by simp) ?_; (case hd => rfl); (case hg => rfl); (case hr => first | (go_simp; done) | (go_simp; rfl)); (case hp => exact (Reps.none _ _)); intro v154 w6 ho7 hb hg_ hnew_; clear hg_ hnew_; (first | rw [← Ny153.out] at ho7 | (simp only [Int.reduceToNat] at ho7; rw [← Ny153.out] at ho7)); have n0_ := Aside0.mk (Kd.R_lower ho7 (below_size (by repeat (first | (with_reducible first | exact HB.out | apply below_alloc | apply pw_below_drewN | apply below_drew1 | refine below_set ?_ (IsS55.ge HI149.out)) | exact HB.out)))); have n1_ := Aside0.mk (IsS55.below (by repeat (first | (with_reducible first | exact HI149.out | apply IsS55.alloc | apply IsS55.drewN | apply IsS55.drew | apply IsS55.set_1 | apply IsS55.set_2) | exact HI149.out)) hb); have n2_ := Aside0.mk (below_step (by repeat (first | (with_reducible first | exact HB.out | apply below_alloc | apply pw_below_drewN | apply below_drew1 | refine below_set ?_ (IsS55.ge HI149.out)) | exact HB.out)) hb); clear HI149; clear HB; have HO155 := n0_; have HI149 := n1_; have HB := n2_; clear n0_ n1_ n2_; clear hb ho7))
  go_loopg [4, 5] k (fun kq v4 v5 w' => ∃ (x4_1 : List Int) (x5_1 : Int) (x150001_1 : Int) (x150002_1 : Int), v5 = .int .i64 x5_1 ∧ Aside0 (spec_DrawPlaces.l0 kq x4_1 x5_1 t146 x150001_1 x150002_1 = some r) ∧ Aside0 (kq ≤ k) ∧ Aside0 (Kd.R (Kd.int .i64) 3 w' w.heap.size (fun _ => True) v4 x4_1) ∧ Aside0 (IsS55 w w' g149 t146 x150001_1 x150002_1) ∧ Aside0 (Below w.heap.size w w'))
  case atStart => exact ⟨(y153), (0), (t151), (t152), (by first | rfl | (simp; done) | (simp [*]; done)), H', ⟨Nat.le_refl _⟩, ⟨by (with_reducible repeat (first | apply Kd.R_alloc | apply Kd.R_drewN | apply Kd.R_drew)); exact HO155.out⟩, ⟨by repeat (first | (with_reducible first | exact HI149.out | apply IsS55.alloc | apply IsS55.drewN | apply IsS55.drew | apply IsS55.set_1 | apply IsS55.set_2) | exact HI149.out)⟩, ⟨by repeat (first | (with_reducible first | exact HB.out | apply below_alloc | apply pw_below_drewN | apply below_drew1 | refine below_set ?_ (IsS55.ge HI149.out)) | exact HB.out)⟩⟩
  case round =>
    clear H'
    try clear c1
    try clear c2
    try clear p2
    obtain ⟨x4_1, x5_1, x150001_1, x150002_1, rfl, HA, HK1, HO_4, HI149, HB⟩ := hrel
    cases gk with
    | zero => exact absurd HA.out (by simp [spec_DrawPlaces.l0])
    | succ k1 =>
      have H := HA.out
      clear HA
      simp only [spec_DrawPlaces.l0] at H
      by_cases c8 : x5_1 < 12
      · rw [if_pos c8] at H
        have c8b0 : decide (x5_1 < 12) = true := decide_eq_true c8
        clear c8
        replace H := Option.bind_eq_some_iff.mp H
        obtain ⟨⟨t156, t157, t158⟩, A90, H⟩ := H
        replace H : (if x4_1.length < 17592186044416 then (spec_DrawPlaces.l0 k1 (x4_1 ++ [t156]) (wrap64 (x5_1 + 1)) t146 t157 t158) else (none)) = some r := H
        have A9 := Aside0.mk A90
        clear A90
        by_cases c10 : x4_1.length < 17592186044416
        · rw [if_pos c10] at H
          have LMc10 := Aside0.mk c10
          clear c10
          obtain ⟨y159, hy159⟩ : ∃ y_ : List Int, y_ = (x4_1 ++ [t156]) := ⟨_, rfl⟩
          replace H : (spec_DrawPlaces.l0 k1 y159 (wrap64 (x5_1 + 1)) t146 t157 t158) = some r := by first | (rw [hy159]; with_reducible exact H) | (have H2_ := (Option.bind_some _ _).symm.trans H; rw [hy159]; with_reducible exact H2_) | (have H2_ := (Option.bind_some _ _).symm.trans H; with_reducible exact H2_) | with_reducible exact H | (rw [hy159]; exact H) | exact H
          have Ny159 := Aside0.mk hy159
          clear hy159
          have H' := Aside0.mk H
          clear H
          go_wp2_with (first | ((with_reducible refine gate_callee (f := 23) rfl ?_); refine goesL_ (some 17) rfl rfl Try.func23 (by kernel_rfl) rfl #[.pointer (some ⟨g149, 0, none⟩), .int .i64 10000] rfl (by (try simp only [List.map_toArray, List.map_cons, List.map_nil]); first | done | rfl | (simp only [List.length_drop, List.length_take]; rfl)) ?_; (with_reducible refine (spec_l01Below.calls g149 t146 x150001_1 x150002_1 10000 t156 t157 t158 w _ ?side1 ?side2 A9.out).mono ?_); (case side1 => repeat (first | (with_reducible first | exact HI149.out | apply IsS55.alloc | apply IsS55.drewN | apply IsS55.drew | apply IsS55.set_1 | apply IsS55.set_2) | exact HI149.out)); (case side2 => repeat (first | (with_reducible first | exact HB.out | apply below_alloc | apply pw_below_drewN | apply below_drew1 | refine below_set ?_ (IsS55.ge HI149.out)) | exact HB.out)); rintro e w11 ⟨rfl, hi, hb, hk⟩; refine ⟨_, rfl, ?_⟩; have n0_ := Aside0.mk (Kd.R_mono (Kd.R_keep (IsS55.apart (show IsS55 w _ g149 t146 x150001_1 x150002_1 from by repeat (first | (with_reducible first | exact HI149.out | apply IsS55.alloc | apply IsS55.drewN | apply IsS55.drew | apply IsS55.set_1 | apply IsS55.set_2) | exact HI149.out)) (by (with_reducible repeat (first | apply Kd.R_alloc | apply Kd.R_drewN | apply Kd.R_drew)); exact HO_4.out) (by decide)) hk (fun _ h => h.2)) (fun _ h => h.1)); have n1_ := Aside0.mk (hb); have n2_ := Aside0.mk (hi); clear HO_4; clear HB; clear HI149; have HO_4 := n0_; have HB := n1_; have HI149 := n2_; clear n0_ n1_ n2_; (try clear hb); (try clear hb2); (try clear hk); (try clear hi)) | ((with_reducible refine gate_builtin (b := .append) (xs := #[.tmp 15, .tmp 18]) rfl ?_); at_builtin; refine Kd.R_append (Kd.int .i64) (w0 := w) w.heap.size rfl (.tmp 15) (.tmp 18) 28 3 (.int .i64 0) 8 rfl Try.underlying28 info3 rfl (by decide) (by omega) u4 x4_1 t156 [.int .i64 t156] (fun _ => True) (fun _ => False) rfl rfl ?aP (fun _ hk => hk.elim) ?aF ?aO ?aB ?aS ?aL ?_; (case aP => exact rfl); (case aB => exact (by repeat (first | (with_reducible first | exact HB.out | apply below_alloc | apply pw_below_drewN | apply below_drew1 | refine below_set ?_ (IsS55.ge HI149.out)) | exact HB.out))); (case aF => exact (fun _ _ => trivial)); (case aO => exact (by (with_reducible repeat (first | apply Kd.R_alloc | apply Kd.R_drewN | apply Kd.R_drew)); exact HO_4.out)); (case aS => exact (below_size (by repeat (first | (with_reducible first | exact HB.out | apply below_alloc | apply pw_below_drewN | apply below_drew1 | refine below_set ?_ (IsS55.ge HI149.out)) | exact HB.out)))); (case aL => have := LMc10.out; omega); intro v160 w12 ho hb hg hat; rw [← Ny159.out] at ho; have n0_ := Aside0.mk (IsS55.grown (by repeat (first | (with_reducible first | exact HI149.out | apply IsS55.alloc | apply IsS55.drewN | apply IsS55.drew | apply IsS55.set_1 | apply IsS55.set_2) | exact HI149.out)) hg (IsS55.own_ne HI149.out HO_4.out (by decide))); have n1_ := Aside0.mk (hb); have n2_ := Aside0.mk (ho); clear HI149; clear HB; clear HO_4; have HI149 := n0_; have HB := n1_; have HO161 := n2_; clear n0_ n1_ n2_; clear ho hb hg hat))
          go_roundg k1
          case measure => have := HK1.out; omega
          case rel => exact ⟨(y159), (wrap64 (x5_1 + 1)), (t157), (t158), (by first | rfl | (simp; done) | (simp [*]; done)), H', ⟨by have := HK1.out; omega⟩, ⟨by (with_reducible repeat (first | apply Kd.R_alloc | apply Kd.R_drewN | apply Kd.R_drew)); exact HO161.out⟩, ⟨by repeat (first | (with_reducible first | exact HI149.out | apply IsS55.alloc | apply IsS55.drewN | apply IsS55.drew | apply IsS55.set_1 | apply IsS55.set_2) | exact HI149.out)⟩, ⟨by repeat (first | (with_reducible first | exact HB.out | apply below_alloc | apply pw_below_drewN | apply below_drew1 | refine below_set ?_ (IsS55.ge HI149.out)) | exact HB.out)⟩⟩
        · rw [if_neg c10] at H
          exact absurd H (by simp)
      · rw [if_neg c8] at H
        have c8b0 : decide (x5_1 < 12) = false := decide_eq_false c8
        clear c8
        obtain rfl := Option.some.inj H
        go_wp2
        go_ret
        exact ⟨_, by first | rfl | (simp [errW_none, errW_some] <;> rfl) | (simp [*, errW_none, errW_some] <;> rfl), by (with_reducible repeat (first | apply Kd.R_alloc | apply Kd.R_drewN | apply Kd.R_drew)); exact HO_4.out, by repeat (first | (with_reducible first | exact HB.out | apply below_alloc | apply pw_below_drewN | apply below_drew1 | refine below_set ?_ (IsS55.ge HI149.out)) | exact HB.out)⟩

/-! ### impl_FlagsAfter: function 12 -/
def impl_FlagsAfter.j0 : Nat → Int → Int → Int → Bool → Option (Int)
  | 0, _, _, _, _ => none
  | k + 1, x0, x1, x2, x14 => if x14 = true then (some x0) else (if x1 = 1 then (some x2) else (if x1 = 2 then (some (Go.bits .or .i64 x0 x2)) else (if x1 = 3 then (some (Go.bits .andNot .i64 x0 x2)) else (some x0))))
def impl_FlagsAfter.f (k : Nat) (a0 : Int) (a1 : Int) (a2 : Int) : Option (Int) := (impl_FlagsOk.f a0).bind fun t162 => (if t162 = true then ((impl_FlagsOk.f a2).bind fun t163 => (impl_FlagsAfter.j0 k a0 a1 a2 (!t163))) else (impl_FlagsAfter.j0 k a0 a1 a2 true))
theorem impl_FlagsAfter.mono_l : ∀ k, (∀ y0 y1 y2 y3, LeO (impl_FlagsAfter.j0 k y0 y1 y2 y3) (impl_FlagsAfter.j0 (k + 1) y0 y1 y2 y3))
  | 0 => fun _ _ _ _ r h => by simp [impl_FlagsAfter.j0] at h
  | k + 1 => by
    have ih0 := impl_FlagsAfter.mono_l k
    · intro y0 y1 y2 y3
      unfold impl_FlagsAfter.j0
      repeat' first
      | (with_reducible exact ih0 _ _ _ _)
      | (with_reducible exact LeO.refl _)
      | (with_reducible exact LeO.none _)
      | (with_reducible refine LeO.ite ?_ ?_)
      | (with_reducible refine LeO.bind ?_ (fun _ => ?_))
      | exact ih0 _ _ _ _
      | exact LeO.none _
      | refine LeO.ite ?_ ?_
      | refine LeO.bind ?_ (fun _ => ?_)
theorem impl_FlagsAfter.mono : ∀ a0 a1 a2 k, LeO (impl_FlagsAfter.f k a0 a1 a2) (impl_FlagsAfter.f (k + 1) a0 a1 a2) := by
  intro a0 a1 a2 k
  have ih0 := impl_FlagsAfter.mono_l k
  unfold impl_FlagsAfter.f
  repeat' first
      | (with_reducible exact ih0 _ _ _ _)
      | (with_reducible exact LeO.refl _)
      | (with_reducible exact LeO.none _)
      | (with_reducible refine LeO.ite ?_ ?_)
      | (with_reducible refine LeO.bind ?_ (fun _ => ?_))
      | exact ih0 _ _ _ _
      | exact LeO.none _
      | refine LeO.ite ?_ ?_
      | refine LeO.bind ?_ (fun _ => ?_)
set_option maxHeartbeats 8000000 in
set_option maxRecDepth 100000 in
theorem impl_FlagsAfter.calls (k : Nat) (a0 : Int) (a1 : Int) (a2 : Int) (r : Int) (w : World) (h : impl_FlagsAfter.f k a0 a1 a2 = some r) :
    Calls Try.prog 12 #[.int .i64 a0, .int .i64 a1, .int .i64 a2] w fun e w' => e = .returned (.int .i64 r) ∧ Drawn0 w w' := by
  have H : ((impl_FlagsOk.f a0).bind fun t162 => (if t162 = true then ((impl_FlagsOk.f a2).bind fun t163 => (impl_FlagsAfter.j0 k a0 a1 a2 (!t163))) else (impl_FlagsAfter.j0 k a0 a1 a2 true))) = some r := h
  clear h
  have HC4 := Aside0.mk H
  clear H
  go_enter Try.func12, Try.ntmps12
  go_upto_region 1 with (fail)
  go_cut [14] (fun v14 wc => ∃ (kq : Nat) (x14_3 : Bool), v14 = .bool x14_3 ∧ Aside0 (impl_FlagsAfter.j0 kq a0 a1 a2 x14_3 = some r) ∧ Aside0 (kq ≤ k) ∧ Drawn0 w wc)
  case first =>
    have H := HC4.out
    clear HC4
    replace H := Option.bind_eq_some_iff.mp H
    obtain ⟨t162, A50, H⟩ := H
    replace H : (if t162 = true then ((impl_FlagsOk.f a2).bind fun t163 => (impl_FlagsAfter.j0 k a0 a1 a2 (!t163))) else (impl_FlagsAfter.j0 k a0 a1 a2 true)) = some r := H
    have A5 := Aside0.mk A50
    clear A50
    by_cases c6 : t162 = true
    · subst c6
      have H1 : ((impl_FlagsOk.f a2).bind fun t163 => (impl_FlagsAfter.j0 k a0 a1 a2 (!t163))) = some r := by rw [if_pos rfl] at H; exact H
      clear H
      have H := H1
      clear H1
      replace H := Option.bind_eq_some_iff.mp H
      obtain ⟨t163, A70, H⟩ := H
      replace H : (impl_FlagsAfter.j0 k a0 a1 a2 (!t163)) = some r := H
      have A7 := Aside0.mk A70
      clear A70
      have H' := Aside0.mk H
      clear H
      go_wp2_with (first | ((with_reducible refine gate_callee (f := 13) rfl ?_); refine goesL_ (some 8) rfl rfl Try.func13 (by kernel_rfl) rfl #[.int .i64 a0] rfl (by (try simp only [List.map_toArray, List.map_cons, List.map_nil]); first | done | rfl | (simp only [List.length_drop, List.length_take]; rfl)) ?_; (with_reducible refine (impl_FlagsOk.calls a0 true _ A5.out).mono ?_); rintro e w' ⟨rfl, ⟨nd, rfl⟩⟩; refine ⟨_, rfl, ?_⟩) | (go_at_call 13; (with_reducible refine (impl_FlagsOk.calls a2 t163 _ A7.out).mono ?_); rintro e w' ⟨rfl, ⟨nd, rfl⟩⟩))
      go_meet
      case rel => exact ⟨_, (!t163), (by first | rfl | (simp; done) | (simp [*]; done)), H', ⟨by first | omega | exact Nat.le_refl _⟩, by repeat (first | exact Drawn0.refl _ | apply Drawn0.step)⟩
    · replace c6 := Bool.eq_false_iff.mpr c6
      subst c6
      have H1 : (impl_FlagsAfter.j0 k a0 a1 a2 true) = some r := by rw [if_neg (show ¬ (false = true) by decide)] at H; exact H
      clear H
      have H := H1
      clear H1
      have H' := Aside0.mk H
      clear H
      go_wp2_with (first | ((with_reducible refine gate_callee (f := 13) rfl ?_); refine goesL_ (some 8) rfl rfl Try.func13 (by kernel_rfl) rfl #[.int .i64 a0] rfl (by (try simp only [List.map_toArray, List.map_cons, List.map_nil]); first | done | rfl | (simp only [List.length_drop, List.length_take]; rfl)) ?_; (with_reducible refine (impl_FlagsOk.calls a0 false _ A5.out).mono ?_); rintro e w' ⟨rfl, ⟨nd, rfl⟩⟩; refine ⟨_, rfl, ?_⟩))
      go_meet
      case rel => exact ⟨_, (true), (by first | rfl | (simp; done) | (simp [*]; done)), H', ⟨by first | omega | exact Nat.le_refl _⟩, by repeat (first | exact Drawn0.refl _ | apply Drawn0.step)⟩
  case rest =>
    clear HC4
    try clear c1
    try clear p2
    try clear c6
    obtain ⟨kq, x14_3, rfl, HA, HJ3, ⟨mc3, rfl⟩⟩ := hcut
    cases kq with
    | zero => exact absurd HA.out (by simp [impl_FlagsAfter.j0])
    | succ kj3 =>
      have H := HA.out
      clear HA
      simp only [impl_FlagsAfter.j0] at H
      by_cases c8 : x14_3 = true
      · subst c8
        have H1 : (some a0) = some r := by rw [if_pos rfl] at H; exact H
        clear H
        have H := H1
        clear H1
        obtain rfl := Option.some.inj H
        go_wp2
        go_ret
        exact ⟨by first | rfl | (simp; done) | (simp [*]; done), by repeat (first | exact Drawn0.refl _ | apply Drawn0.step)⟩
      · replace c8 := Bool.eq_false_iff.mpr c8
        subst c8
        have H1 : (if a1 = 1 then (some a2) else (if a1 = 2 then (some (Go.bits .or .i64 a0 a2)) else (if a1 = 3 then (some (Go.bits .andNot .i64 a0 a2)) else (some a0)))) = some r := by rw [if_neg (show ¬ (false = true) by decide)] at H; exact H
        clear H
        have H := H1
        clear H1
        by_cases c9 : a1 = 1
        · rw [if_pos c9] at H
          have c9b0 : (a1 == 1) = true := beq_iff_eq.mpr c9
          have c9b1 : (a1 != 1) = false := bne_eq_false_iff_eq.mpr c9
          clear c9
          obtain rfl := Option.some.inj H
          go_wp2
          go_ret
          exact ⟨by first | rfl | (simp; done) | (simp [*]; done), by repeat (first | exact Drawn0.refl _ | apply Drawn0.step)⟩
        · rw [if_neg c9] at H
          have c9b0 : (a1 == 1) = false := beq_eq_false_iff_ne.mpr c9
          have c9b1 : (a1 != 1) = true := bne_iff_ne.mpr c9
          by_cases c10 : a1 = 2
          · rw [if_pos c10] at H
            have c10b0 : (a1 == 2) = true := beq_iff_eq.mpr c10
            have c10b1 : (a1 != 2) = false := bne_eq_false_iff_eq.mpr c10
            clear c10
            obtain rfl := Option.some.inj H
            go_wp2
            go_ret
            exact ⟨by first | rfl | (simp; done) | (simp [*]; done), by repeat (first | exact Drawn0.refl _ | apply Drawn0.step)⟩
          · rw [if_neg c10] at H
            have c10b0 : (a1 == 2) = false := beq_eq_false_iff_ne.mpr c10
            have c10b1 : (a1 != 2) = true := bne_iff_ne.mpr c10
            by_cases c11 : a1 = 3
            · rw [if_pos c11] at H
              have c11b0 : (a1 == 3) = true := beq_iff_eq.mpr c11
              have c11b1 : (a1 != 3) = false := bne_eq_false_iff_eq.mpr c11
              clear c11
              obtain rfl := Option.some.inj H
              go_wp2
              go_ret
              exact ⟨by first | rfl | (simp; done) | (simp [*]; done), by repeat (first | exact Drawn0.refl _ | apply Drawn0.step)⟩
            · rw [if_neg c11] at H
              have c11b0 : (a1 == 3) = false := beq_eq_false_iff_ne.mpr c11
              have c11b1 : (a1 != 3) = true := bne_iff_ne.mpr c11
              obtain rfl := Option.some.inj H
              go_wp2
              go_ret
              exact ⟨by first | rfl | (simp; done) | (simp [*]; done), by repeat (first | exact Drawn0.refl _ | apply Drawn0.step)⟩

/-! ### laws_FnEachFlag: function 5 -/
def laws_FnEachFlag.l0 : Nat → Int → Int → Int → Option (Bool)
  | 0, _, _, _ => none
  | k + 1, x4, x5, x6 => if x6 ≤ 16 then (if x6 = 0 then (none) else ((impl_FlagsAfter.f k x4 2 x5).bind fun t170 => (if (Int.tmod (wrap64 (Int.tdiv x4 x6)) 2) = 1 then (if (((Int.tmod (wrap64 (Int.tdiv t170 x6)) 2) == 1) != true) = true then (some false) else ((impl_FlagsAfter.f k x4 3 x5).bind fun t171 => (if (((Int.tmod (wrap64 (Int.tdiv t171 x6)) 2) == 1) != (!((Int.tmod (wrap64 (Int.tdiv x5 x6)) 2) == 1))) = true then (some false) else (laws_FnEachFlag.l0 k x4 x5 (wrap64 (2 * x6)))))) else (if (((Int.tmod (wrap64 (Int.tdiv t170 x6)) 2) == 1) != ((Int.tmod (wrap64 (Int.tdiv x5 x6)) 2) == 1)) = true then (some false) else ((impl_FlagsAfter.f k x4 3 x5).bind fun t172 => (if (((Int.tmod (wrap64 (Int.tdiv t172 x6)) 2) == 1) != false) = true then (some false) else (laws_FnEachFlag.l0 k x4 x5 (wrap64 (2 * x6))))))))) else ((impl_FlagsText.f k 0).bind fun t173 => (if t173.toList = ([40, 41] : List UInt8) then ((impl_FlagsText.f k 32).bind fun t174 => (if t174.toList = ([] : List UInt8) then ((impl_FlagsText.f k x4).bind fun t175 => ((spec_FlagsText.f k x4).bind fun t176 => (if t175.toList = t176.toList then ((impl_FlagsOk.f (-1)).bind fun t177 => (some (!t177))) else (some false)))) else (some false))) else (some false)))
def laws_FnEachFlag.f (k : Nat) (l0 : List Int) : Option (Bool) := (laws_big.f l0).bind fun t164 => (if t164 = true then (some true) else ((spec_DrawPlaces.f k l0).bind fun t165 => (if 0 < (t165.length : Int) then (if 1 < (t165.length : Int) then (laws_FnEachFlag.l0 k (Int.tmod (rd t165 0) 32) (Int.tmod (rd t165 1) 32) 1) else (none)) else (none))))
theorem laws_FnEachFlag.mono_l : ∀ k, (∀ y0 y1 y2, LeO (laws_FnEachFlag.l0 k y0 y1 y2) (laws_FnEachFlag.l0 (k + 1) y0 y1 y2))
  | 0 => fun _ _ _ r h => by simp [laws_FnEachFlag.l0] at h
  | k + 1 => by
    have ih0 := laws_FnEachFlag.mono_l k
    · intro y0 y1 y2
      unfold laws_FnEachFlag.l0
      repeat' first
      | (with_reducible exact ih0 _ _ _)
      | (with_reducible exact impl_FlagsAfter.mono _ _ _ _)
      | (with_reducible exact impl_FlagsText.mono _ _)
      | (with_reducible exact spec_DrawPlaces.mono _ _)
      | (with_reducible exact spec_FlagsText.mono _ _)
      | (with_reducible exact LeO.refl _)
      | (with_reducible exact LeO.none _)
      | (with_reducible refine LeO.ite ?_ ?_)
      | (with_reducible refine LeO.bind ?_ (fun _ => ?_))
      | exact ih0 _ _ _
      | exact impl_FlagsAfter.mono _ _ _ _
      | exact impl_FlagsText.mono _ _
      | exact spec_DrawPlaces.mono _ _
      | exact spec_FlagsText.mono _ _
      | exact LeO.none _
      | refine LeO.ite ?_ ?_
      | refine LeO.bind ?_ (fun _ => ?_)
theorem laws_FnEachFlag.mono : ∀ a0 k, LeO (laws_FnEachFlag.f k a0) (laws_FnEachFlag.f (k + 1) a0) := by
  intro a0 k
  have ih0 := laws_FnEachFlag.mono_l k
  unfold laws_FnEachFlag.f
  repeat' first
      | (with_reducible exact ih0 _ _ _)
      | (with_reducible exact impl_FlagsAfter.mono _ _ _ _)
      | (with_reducible exact impl_FlagsText.mono _ _)
      | (with_reducible exact spec_DrawPlaces.mono _ _)
      | (with_reducible exact spec_FlagsText.mono _ _)
      | (with_reducible exact LeO.refl _)
      | (with_reducible exact LeO.none _)
      | (with_reducible refine LeO.ite ?_ ?_)
      | (with_reducible refine LeO.bind ?_ (fun _ => ?_))
      | exact ih0 _ _ _
      | exact impl_FlagsAfter.mono _ _ _ _
      | exact impl_FlagsText.mono _ _
      | exact spec_DrawPlaces.mono _ _
      | exact spec_FlagsText.mono _ _
      | exact LeO.none _
      | refine LeO.ite ?_ ?_
      | refine LeO.bind ?_ (fun _ => ?_)
set_option maxHeartbeats 8000000 in
set_option maxRecDepth 100000 in
theorem laws_FnEachFlag.calls (k : Nat) (A0 : Option Addr) (c0 : Nat) (l0 : List Int) (r : Bool) (w : World) (hr0 : Kd.C (Kd.int .u8) w A0 l0.length l0) (hc0 : l0.length ≤ c0) (hr_ : r = true) (h : laws_FnEachFlag.f k l0 = some r) :
    Calls Try.prog 5 #[.slice A0 l0.length c0] w fun e w' => e = .returned (.bool r) ∧ Below w.heap.size w w' := by
  have HR0 := Aside0.mk hr0
  have HC0 := Aside0.mk hc0
  clear hr0 hc0
  have HB := Aside0.mk (Below.refl w.heap.size w)
  have HR_ := Aside0.mk hr_
  clear hr_
  have H : ((laws_big.f l0).bind fun t164 => (if t164 = true then (some true) else ((spec_DrawPlaces.f k l0).bind fun t165 => (if 0 < (t165.length : Int) then (if 1 < (t165.length : Int) then (laws_FnEachFlag.l0 k (Int.tmod (rd t165 0) 32) (Int.tmod (rd t165 1) 32) 1) else (none)) else (none))))) = some r := h
  clear h
  replace H := Option.bind_eq_some_iff.mp H
  obtain ⟨t164, A20, H⟩ := H
  replace H : (if t164 = true then (some true) else ((spec_DrawPlaces.f k l0).bind fun t165 => (if 0 < (t165.length : Int) then (if 1 < (t165.length : Int) then (laws_FnEachFlag.l0 k (Int.tmod (rd t165 0) 32) (Int.tmod (rd t165 1) 32) 1) else (none)) else (none)))) = some r := H
  have A2 := Aside0.mk A20
  clear A20
  by_cases c3 : t164 = true
  · subst c3
    have H1 : (some true) = some r := by rw [if_pos rfl] at H; exact H
    clear H
    have H := H1
    clear H1
    obtain rfl := Option.some.inj H
    go_enter Try.func5, Try.ntmps5
    go_wp2_with (first | ((with_reducible refine gate_callee (f := 10) rfl ?_); refine goesL_ (some 10) rfl rfl Try.func10 (by kernel_rfl) rfl #[.slice A0 l0.length c0] rfl (by (try simp only [List.map_toArray, List.map_cons, List.map_nil]); first | done | rfl | (simp only [List.length_drop, List.length_take]; rfl)) ?_; (with_reducible refine (laws_big.calls _ _ l0 true _ ?side1 ?side2 A2.out).mono ?_); (case side1 => repeat (first | exact HR0.out | (with_reducible refine Kd.C_alloc ?_ _) | (with_reducible refine Kd.C_drewN ?_ _) | (with_reducible refine Kd.C_drew ?_))); (case side2 => exact HC0.out); rintro e w' ⟨rfl, ⟨nd, rfl⟩⟩; refine ⟨_, rfl, ?_⟩))
    go_ret
    exact ⟨by first | rfl | (simp [errW_none, errW_some] <;> rfl) | (simp [*, errW_none, errW_some] <;> rfl), by repeat (first | (with_reducible first | exact HB.out | apply below_alloc | apply pw_below_drewN | apply below_drew1) | exact HB.out)⟩
  · replace c3 := Bool.eq_false_iff.mpr c3
    subst c3
    have H1 : ((spec_DrawPlaces.f k l0).bind fun t165 => (if 0 < (t165.length : Int) then (if 1 < (t165.length : Int) then (laws_FnEachFlag.l0 k (Int.tmod (rd t165 0) 32) (Int.tmod (rd t165 1) 32) 1) else (none)) else (none))) = some r := by rw [if_neg (show ¬ (false = true) by decide)] at H; exact H
    clear H
    have H := H1
    clear H1
    replace H := Option.bind_eq_some_iff.mp H
    obtain ⟨t165, A40, H⟩ := H
    replace H : (if 0 < (t165.length : Int) then (if 1 < (t165.length : Int) then (laws_FnEachFlag.l0 k (Int.tmod (rd t165 0) 32) (Int.tmod (rd t165 1) 32) 1) else (none)) else (none)) = some r := H
    have A4 := Aside0.mk A40
    clear A40
    by_cases c5 : 0 < (t165.length : Int)
    · rw [if_pos c5] at H
      have c5b0 : decide (0 < (t165.length : Int)) = true := decide_eq_true c5
      have c5b1 : decide (0 < t165.length) = true := decide_eq_true (by omega)
      clear c5
      by_cases c6 : 1 < (t165.length : Int)
      · rw [if_pos c6] at H
        have c6b0 : decide (1 < (t165.length : Int)) = true := decide_eq_true c6
        have c6b1 : decide (1 < t165.length) = true := decide_eq_true (by omega)
        clear c6
        have H' := Aside0.mk H
        clear H
        go_enter Try.func5, Try.ntmps5
        go_wp2_with (first | ((with_reducible refine gate_callee (f := 10) rfl ?_); refine goesL_ (some 10) rfl rfl Try.func10 (by kernel_rfl) rfl #[.slice A0 l0.length c0] rfl (by (try simp only [List.map_toArray, List.map_cons, List.map_nil]); first | done | rfl | (simp only [List.length_drop, List.length_take]; rfl)) ?_; (with_reducible refine (laws_big.calls _ _ l0 false _ ?side1 ?side2 A2.out).mono ?_); (case side1 => repeat (first | exact HR0.out | (with_reducible refine Kd.C_alloc ?_ _) | (with_reducible refine Kd.C_drewN ?_ _) | (with_reducible refine Kd.C_drew ?_))); (case side2 => exact HC0.out); rintro e w' ⟨rfl, ⟨nd, rfl⟩⟩; refine ⟨_, rfl, ?_⟩) | ((with_reducible refine gate_callee (f := 11) rfl ?_); refine goesL_ (some 12) rfl rfl Try.func11 (by kernel_rfl) rfl #[.slice A0 l0.length c0] rfl (by (try simp only [List.map_toArray, List.map_cons, List.map_nil]); first | done | rfl | (simp only [List.length_drop, List.length_take]; rfl)) ?_; (with_reducible refine (spec_DrawPlaces.calls k _ _ l0 t165 _ ?side1 ?side2 A4.out).mono ?_); (case side1 => repeat (first | exact HR0.out | (with_reducible refine Kd.C_alloc ?_ _) | (with_reducible refine Kd.C_drewN ?_ _) | (with_reducible refine Kd.C_drew ?_))); (case side2 => exact HC0.out); rintro e w7 ⟨v166, rfl, ho0, hb⟩; refine ⟨_, rfl, ?_⟩; have n0_ := Aside0.mk (Kd.R_lower ho0 (below_size (by repeat (first | (with_reducible first | exact HB.out | apply below_alloc | apply pw_below_drewN | apply below_drew1) | exact HB.out)))); have n1_ := Aside0.mk (below_step (by repeat (first | (with_reducible first | exact HB.out | apply below_alloc | apply pw_below_drewN | apply below_drew1) | exact HB.out)) hb); clear HB; have HO167 := n0_; have HB := n1_; clear n0_ n1_; (try clear hb); (try clear hb2); (try clear hk); (try clear hi); (try clear ho0); obtain ⟨Ao8, co8, eo8⟩ := Kd.R_slice HO167.out; subst eo8; have p168 : 0 ≤ (0 : Int) := (by omega); have q168 : 0 < (t165.length : Int) := of_decide_eq_true (by first | (with_reducible assumption) | assumption); obtain ⟨ad168, e168, hx168_0⟩ := Kd.at_int (Kd.R_reads' HO167.out).2.2 0 p168 q168; cases e168; have qi168 : (0 < t165.length) = True := eq_true (by omega); (try rw [show ((0 : Int)).toNat = 0 from rfl] at hx168_0); (try rw [Addr.add_zero'] at hx168_0); replace p168 := eq_true p168; replace q168 := eq_true q168; have p169 : 0 ≤ (1 : Int) := (by omega); have q169 : 1 < (t165.length : Int) := of_decide_eq_true (by first | (with_reducible assumption) | assumption); obtain ⟨ad169, e169, hx169_0⟩ := Kd.at_int (Kd.R_reads' HO167.out).2.2 1 p169 q169; obtain rfl : ad168 = ad169 := (by injection e169); (try simp only [show (1 : Int).toNat = 1 from rfl, Nat.reduceMul, Nat.reduceEqDiff, Go.Addr.add, ↓reduceIte] at hx169_0); have qi169 : (1 < t165.length) = True := eq_true (by omega); (try rw [show ((1 : Int)).toNat = 1 from rfl] at hx169_0); replace p169 := eq_true p169; replace q169 := eq_true q169))
        go_loopg [6] k (fun kq v6 w' => ∃ (x6_1 : Int), v6 = .int .i64 x6_1 ∧ Aside0 (laws_FnEachFlag.l0 kq (Int.tmod (rd t165 0) 32) (Int.tmod (rd t165 1) 32) x6_1 = some r) ∧ Aside0 (kq ≤ k) ∧ Aside0 (Below w.heap.size w w'))
        case atStart => exact ⟨(1), (by first | rfl | (simp; done) | (simp [*]; done)), H', ⟨Nat.le_refl _⟩, ⟨by repeat (first | (with_reducible first | exact HB.out | apply below_alloc | apply pw_below_drewN | apply below_drew1) | exact HB.out)⟩⟩
        case round =>
          clear H'
          try clear c1
          try clear p1
          try clear q1
          try clear hx1
          try clear qi1
          try clear p2
          try clear c3
          try clear c5
          try clear c5b0
          try clear c5b1
          try clear c6
          try clear c6b0
          try clear c6b1
          try clear hx168_0
          try clear hx169_0
          try clear p168
          try clear p169
          try clear q168
          try clear q169
          obtain ⟨x6_1, rfl, HA, HK1, HB⟩ := hrel
          cases gk with
          | zero => exact absurd HA.out (by simp [laws_FnEachFlag.l0])
          | succ k1 =>
            have H := HA.out
            clear HA
            simp only [laws_FnEachFlag.l0] at H
            by_cases c9 : x6_1 ≤ 16
            · rw [if_pos c9] at H
              have c9b0 : decide (x6_1 ≤ 16) = true := decide_eq_true c9
              clear c9
              by_cases c10 : x6_1 = 0
              · rw [if_pos c10] at H
                exact absurd H (by simp)
              · rw [if_neg c10] at H
                have c10b0 : (x6_1 == 0) = false := beq_eq_false_iff_ne.mpr c10
                have c10b1 : (x6_1 != 0) = true := bne_iff_ne.mpr c10
                replace H := Option.bind_eq_some_iff.mp H
                obtain ⟨t170, A110, H⟩ := H
                replace H : (if (Int.tmod (wrap64 (Int.tdiv (Int.tmod (rd t165 0) 32) x6_1)) 2) = 1 then (if (((Int.tmod (wrap64 (Int.tdiv t170 x6_1)) 2) == 1) != true) = true then (some false) else ((impl_FlagsAfter.f k1 (Int.tmod (rd t165 0) 32) 3 (Int.tmod (rd t165 1) 32)).bind fun t171 => (if (((Int.tmod (wrap64 (Int.tdiv t171 x6_1)) 2) == 1) != (!((Int.tmod (wrap64 (Int.tdiv (Int.tmod (rd t165 1) 32) x6_1)) 2) == 1))) = true then (some false) else (laws_FnEachFlag.l0 k1 (Int.tmod (rd t165 0) 32) (Int.tmod (rd t165 1) 32) (wrap64 (2 * x6_1)))))) else (if (((Int.tmod (wrap64 (Int.tdiv t170 x6_1)) 2) == 1) != ((Int.tmod (wrap64 (Int.tdiv (Int.tmod (rd t165 1) 32) x6_1)) 2) == 1)) = true then (some false) else ((impl_FlagsAfter.f k1 (Int.tmod (rd t165 0) 32) 3 (Int.tmod (rd t165 1) 32)).bind fun t172 => (if (((Int.tmod (wrap64 (Int.tdiv t172 x6_1)) 2) == 1) != false) = true then (some false) else (laws_FnEachFlag.l0 k1 (Int.tmod (rd t165 0) 32) (Int.tmod (rd t165 1) 32) (wrap64 (2 * x6_1))))))) = some r := H
                have A11 := Aside0.mk A110
                clear A110
                by_cases c12 : (Int.tmod (wrap64 (Int.tdiv (Int.tmod (rd t165 0) 32) x6_1)) 2) = 1
                · rw [if_pos c12] at H
                  have c12b0 : ((Int.tmod (wrap64 (Int.tdiv (Int.tmod (rd t165 0) 32) x6_1)) 2) == 1) = true := beq_iff_eq.mpr c12
                  have c12b1 : ((Int.tmod (wrap64 (Int.tdiv (Int.tmod (rd t165 0) 32) x6_1)) 2) != 1) = false := bne_eq_false_iff_eq.mpr c12
                  clear c12
                  by_cases c13 : (((Int.tmod (wrap64 (Int.tdiv t170 x6_1)) 2) == 1) != true) = true
                  · rw [if_pos c13] at H
                    have c13b0 : (((Int.tmod (wrap64 (Int.tdiv t170 x6_1)) 2) == 1) != true) = true := c13
                    (try (have c13b1 : decide (((Int.tmod (wrap64 (Int.tdiv t170 x6_1)) 2) == 1) = true) = false := by simpa using c13))
                    (try (have c13b2 : (((Int.tmod (wrap64 (Int.tdiv t170 x6_1)) 2) == 1) == true) = false := by simpa using c13))
                    (try (have c13b3 : ¬ (((Int.tmod (wrap64 (Int.tdiv t170 x6_1)) 2) == 1) = true) := by simpa using c13))
                    clear c13
                    obtain rfl := Option.some.inj H
                    exact absurd HR_.out (by decide)
                  · rw [if_neg c13] at H
                    have c13b0 : (((Int.tmod (wrap64 (Int.tdiv t170 x6_1)) 2) == 1) != true) = false := by simpa using c13
                    (try (have c13b1 : decide (((Int.tmod (wrap64 (Int.tdiv t170 x6_1)) 2) == 1) = true) = true := by simpa using c13))
                    (try (have c13b2 : (((Int.tmod (wrap64 (Int.tdiv t170 x6_1)) 2) == 1) == true) = true := by simpa using c13))
                    clear c13
                    replace H := Option.bind_eq_some_iff.mp H
                    obtain ⟨t171, A140, H⟩ := H
                    replace H : (if (((Int.tmod (wrap64 (Int.tdiv t171 x6_1)) 2) == 1) != (!((Int.tmod (wrap64 (Int.tdiv (Int.tmod (rd t165 1) 32) x6_1)) 2) == 1))) = true then (some false) else (laws_FnEachFlag.l0 k1 (Int.tmod (rd t165 0) 32) (Int.tmod (rd t165 1) 32) (wrap64 (2 * x6_1)))) = some r := H
                    have A14 := Aside0.mk A140
                    clear A140
                    by_cases c15 : (((Int.tmod (wrap64 (Int.tdiv t171 x6_1)) 2) == 1) != (!((Int.tmod (wrap64 (Int.tdiv (Int.tmod (rd t165 1) 32) x6_1)) 2) == 1))) = true
                    · rw [if_pos c15] at H
                      have c15b0 : (((Int.tmod (wrap64 (Int.tdiv t171 x6_1)) 2) == 1) != (!((Int.tmod (wrap64 (Int.tdiv (Int.tmod (rd t165 1) 32) x6_1)) 2) == 1))) = true := c15
                      have c15n0 : (((Int.tmod (wrap64 (Int.tdiv t171 x6_1)) 2) == 1) == ((Int.tmod (wrap64 (Int.tdiv (Int.tmod (rd t165 1) 32) x6_1)) 2) == 1)) = true := by revert c15b0; generalize ((Int.tmod (wrap64 (Int.tdiv t171 x6_1)) 2) == 1) = p_; generalize ((Int.tmod (wrap64 (Int.tdiv (Int.tmod (rd t165 1) 32) x6_1)) 2) == 1) = q_; cases p_ <;> cases q_ <;> simp
                      have c15n1 : (((Int.tmod (wrap64 (Int.tdiv t171 x6_1)) 2) == 1) != ((Int.tmod (wrap64 (Int.tdiv (Int.tmod (rd t165 1) 32) x6_1)) 2) == 1)) = false := by revert c15b0; generalize ((Int.tmod (wrap64 (Int.tdiv t171 x6_1)) 2) == 1) = p_; generalize ((Int.tmod (wrap64 (Int.tdiv (Int.tmod (rd t165 1) 32) x6_1)) 2) == 1) = q_; cases p_ <;> cases q_ <;> simp
                      have c15n2 : decide (((Int.tmod (wrap64 (Int.tdiv t171 x6_1)) 2) == 1) = ((Int.tmod (wrap64 (Int.tdiv (Int.tmod (rd t165 1) 32) x6_1)) 2) == 1)) = true := by revert c15b0; generalize ((Int.tmod (wrap64 (Int.tdiv t171 x6_1)) 2) == 1) = p_; generalize ((Int.tmod (wrap64 (Int.tdiv (Int.tmod (rd t165 1) 32) x6_1)) 2) == 1) = q_; cases p_ <;> cases q_ <;> simp
                      have c15n3 : (((Int.tmod (wrap64 (Int.tdiv t171 x6_1)) 2) == 1) = ((Int.tmod (wrap64 (Int.tdiv (Int.tmod (rd t165 1) 32) x6_1)) 2) == 1)) = True := by revert c15b0; generalize ((Int.tmod (wrap64 (Int.tdiv t171 x6_1)) 2) == 1) = p_; generalize ((Int.tmod (wrap64 (Int.tdiv (Int.tmod (rd t165 1) 32) x6_1)) 2) == 1) = q_; cases p_ <;> cases q_ <;> simp
                      have c15n4 : (((Int.tmod (wrap64 (Int.tdiv (Int.tmod (rd t165 1) 32) x6_1)) 2) == 1) == ((Int.tmod (wrap64 (Int.tdiv t171 x6_1)) 2) == 1)) = true := by revert c15b0; generalize ((Int.tmod (wrap64 (Int.tdiv t171 x6_1)) 2) == 1) = p_; generalize ((Int.tmod (wrap64 (Int.tdiv (Int.tmod (rd t165 1) 32) x6_1)) 2) == 1) = q_; cases p_ <;> cases q_ <;> simp
                      have c15n5 : (((Int.tmod (wrap64 (Int.tdiv t171 x6_1)) 2) == 1) == (!((Int.tmod (wrap64 (Int.tdiv (Int.tmod (rd t165 1) 32) x6_1)) 2) == 1))) = false := by revert c15b0; generalize ((Int.tmod (wrap64 (Int.tdiv t171 x6_1)) 2) == 1) = p_; generalize ((Int.tmod (wrap64 (Int.tdiv (Int.tmod (rd t165 1) 32) x6_1)) 2) == 1) = q_; cases p_ <;> cases q_ <;> simp
                      have c15n6 : (!(((Int.tmod (wrap64 (Int.tdiv t171 x6_1)) 2) == 1) == (!((Int.tmod (wrap64 (Int.tdiv (Int.tmod (rd t165 1) 32) x6_1)) 2) == 1)))) = true := by revert c15b0; generalize ((Int.tmod (wrap64 (Int.tdiv t171 x6_1)) 2) == 1) = p_; generalize ((Int.tmod (wrap64 (Int.tdiv (Int.tmod (rd t165 1) 32) x6_1)) 2) == 1) = q_; cases p_ <;> cases q_ <;> simp
                      (try (have c15b1 : decide (((Int.tmod (wrap64 (Int.tdiv t171 x6_1)) 2) == 1) = (!((Int.tmod (wrap64 (Int.tdiv (Int.tmod (rd t165 1) 32) x6_1)) 2) == 1))) = false := by simpa using c15))
                      (try (have c15b2 : (((Int.tmod (wrap64 (Int.tdiv t171 x6_1)) 2) == 1) == (!((Int.tmod (wrap64 (Int.tdiv (Int.tmod (rd t165 1) 32) x6_1)) 2) == 1))) = false := by simpa using c15))
                      (try (have c15b3 : ¬ (((Int.tmod (wrap64 (Int.tdiv t171 x6_1)) 2) == 1) = (!((Int.tmod (wrap64 (Int.tdiv (Int.tmod (rd t165 1) 32) x6_1)) 2) == 1))) := by simpa using c15))
                      clear c15
                      obtain rfl := Option.some.inj H
                      exact absurd HR_.out (by decide)
                    · rw [if_neg c15] at H
                      have c15b0 : (((Int.tmod (wrap64 (Int.tdiv t171 x6_1)) 2) == 1) != (!((Int.tmod (wrap64 (Int.tdiv (Int.tmod (rd t165 1) 32) x6_1)) 2) == 1))) = false := by simpa using c15
                      have c15n0 : (((Int.tmod (wrap64 (Int.tdiv t171 x6_1)) 2) == 1) == ((Int.tmod (wrap64 (Int.tdiv (Int.tmod (rd t165 1) 32) x6_1)) 2) == 1)) = false := by revert c15b0; generalize ((Int.tmod (wrap64 (Int.tdiv t171 x6_1)) 2) == 1) = p_; generalize ((Int.tmod (wrap64 (Int.tdiv (Int.tmod (rd t165 1) 32) x6_1)) 2) == 1) = q_; cases p_ <;> cases q_ <;> simp
                      have c15n1 : (((Int.tmod (wrap64 (Int.tdiv t171 x6_1)) 2) == 1) != ((Int.tmod (wrap64 (Int.tdiv (Int.tmod (rd t165 1) 32) x6_1)) 2) == 1)) = true := by revert c15b0; generalize ((Int.tmod (wrap64 (Int.tdiv t171 x6_1)) 2) == 1) = p_; generalize ((Int.tmod (wrap64 (Int.tdiv (Int.tmod (rd t165 1) 32) x6_1)) 2) == 1) = q_; cases p_ <;> cases q_ <;> simp
                      have c15n2 : decide (((Int.tmod (wrap64 (Int.tdiv t171 x6_1)) 2) == 1) = ((Int.tmod (wrap64 (Int.tdiv (Int.tmod (rd t165 1) 32) x6_1)) 2) == 1)) = false := by revert c15b0; generalize ((Int.tmod (wrap64 (Int.tdiv t171 x6_1)) 2) == 1) = p_; generalize ((Int.tmod (wrap64 (Int.tdiv (Int.tmod (rd t165 1) 32) x6_1)) 2) == 1) = q_; cases p_ <;> cases q_ <;> simp
                      have c15n3 : (((Int.tmod (wrap64 (Int.tdiv t171 x6_1)) 2) == 1) = ((Int.tmod (wrap64 (Int.tdiv (Int.tmod (rd t165 1) 32) x6_1)) 2) == 1)) = False := by revert c15b0; generalize ((Int.tmod (wrap64 (Int.tdiv t171 x6_1)) 2) == 1) = p_; generalize ((Int.tmod (wrap64 (Int.tdiv (Int.tmod (rd t165 1) 32) x6_1)) 2) == 1) = q_; cases p_ <;> cases q_ <;> simp
                      have c15n4 : (((Int.tmod (wrap64 (Int.tdiv (Int.tmod (rd t165 1) 32) x6_1)) 2) == 1) == ((Int.tmod (wrap64 (Int.tdiv t171 x6_1)) 2) == 1)) = false := by revert c15b0; generalize ((Int.tmod (wrap64 (Int.tdiv t171 x6_1)) 2) == 1) = p_; generalize ((Int.tmod (wrap64 (Int.tdiv (Int.tmod (rd t165 1) 32) x6_1)) 2) == 1) = q_; cases p_ <;> cases q_ <;> simp
                      have c15n5 : (((Int.tmod (wrap64 (Int.tdiv t171 x6_1)) 2) == 1) == (!((Int.tmod (wrap64 (Int.tdiv (Int.tmod (rd t165 1) 32) x6_1)) 2) == 1))) = true := by revert c15b0; generalize ((Int.tmod (wrap64 (Int.tdiv t171 x6_1)) 2) == 1) = p_; generalize ((Int.tmod (wrap64 (Int.tdiv (Int.tmod (rd t165 1) 32) x6_1)) 2) == 1) = q_; cases p_ <;> cases q_ <;> simp
                      have c15n6 : (!(((Int.tmod (wrap64 (Int.tdiv t171 x6_1)) 2) == 1) == (!((Int.tmod (wrap64 (Int.tdiv (Int.tmod (rd t165 1) 32) x6_1)) 2) == 1)))) = false := by revert c15b0; generalize ((Int.tmod (wrap64 (Int.tdiv t171 x6_1)) 2) == 1) = p_; generalize ((Int.tmod (wrap64 (Int.tdiv (Int.tmod (rd t165 1) 32) x6_1)) 2) == 1) = q_; cases p_ <;> cases q_ <;> simp
                      (try (have c15b1 : decide (((Int.tmod (wrap64 (Int.tdiv t171 x6_1)) 2) == 1) = (!((Int.tmod (wrap64 (Int.tdiv (Int.tmod (rd t165 1) 32) x6_1)) 2) == 1))) = true := by simpa using c15))
                      (try (have c15b2 : (((Int.tmod (wrap64 (Int.tdiv t171 x6_1)) 2) == 1) == (!((Int.tmod (wrap64 (Int.tdiv (Int.tmod (rd t165 1) 32) x6_1)) 2) == 1))) = true := by simpa using c15))
                      clear c15
                      have H' := Aside0.mk H
                      clear H
                      go_wp2_with (first | ((with_reducible refine gate_callee (f := 12) rfl ?_); refine goesL_ (some 37) rfl rfl Try.func12 (by kernel_rfl) rfl #[.int .i64 (Int.tmod (rd t165 0) 32), .int .i64 2, .int .i64 (Int.tmod (rd t165 1) 32)] rfl (by (try simp only [List.map_toArray, List.map_cons, List.map_nil]); first | done | rfl | (simp only [List.length_drop, List.length_take]; rfl)) ?_; (with_reducible refine (impl_FlagsAfter.calls k1 (Int.tmod (rd t165 0) 32) 2 (Int.tmod (rd t165 1) 32) t170 _ A11.out).mono ?_); rintro e w' ⟨rfl, ⟨nd, rfl⟩⟩; refine ⟨_, rfl, ?_⟩) | (go_at_call 12; (with_reducible refine (impl_FlagsAfter.calls k1 (Int.tmod (rd t165 0) 32) 3 (Int.tmod (rd t165 1) 32) t171 _ A14.out).mono ?_); rintro e w' ⟨rfl, ⟨nd, rfl⟩⟩))
                      go_roundg k1
                      case measure => have := HK1.out; omega
                      case rel => exact ⟨(wrap64 (2 * x6_1)), (by first | rfl | (simp; done) | (simp [*]; done)), H', ⟨by have := HK1.out; omega⟩, ⟨by repeat (first | (with_reducible first | exact HB.out | apply below_alloc | apply pw_below_drewN | apply below_drew1) | exact HB.out)⟩⟩
                · rw [if_neg c12] at H
                  have c12b0 : ((Int.tmod (wrap64 (Int.tdiv (Int.tmod (rd t165 0) 32) x6_1)) 2) == 1) = false := beq_eq_false_iff_ne.mpr c12
                  have c12b1 : ((Int.tmod (wrap64 (Int.tdiv (Int.tmod (rd t165 0) 32) x6_1)) 2) != 1) = true := bne_iff_ne.mpr c12
                  by_cases c16 : (((Int.tmod (wrap64 (Int.tdiv t170 x6_1)) 2) == 1) != ((Int.tmod (wrap64 (Int.tdiv (Int.tmod (rd t165 1) 32) x6_1)) 2) == 1)) = true
                  · rw [if_pos c16] at H
                    have c16b0 : (((Int.tmod (wrap64 (Int.tdiv t170 x6_1)) 2) == 1) != ((Int.tmod (wrap64 (Int.tdiv (Int.tmod (rd t165 1) 32) x6_1)) 2) == 1)) = true := c16
                    (try (have c16b1 : decide (((Int.tmod (wrap64 (Int.tdiv t170 x6_1)) 2) == 1) = ((Int.tmod (wrap64 (Int.tdiv (Int.tmod (rd t165 1) 32) x6_1)) 2) == 1)) = false := by simpa using c16))
                    (try (have c16b2 : (((Int.tmod (wrap64 (Int.tdiv t170 x6_1)) 2) == 1) == ((Int.tmod (wrap64 (Int.tdiv (Int.tmod (rd t165 1) 32) x6_1)) 2) == 1)) = false := by simpa using c16))
                    (try (have c16b3 : ¬ (((Int.tmod (wrap64 (Int.tdiv t170 x6_1)) 2) == 1) = ((Int.tmod (wrap64 (Int.tdiv (Int.tmod (rd t165 1) 32) x6_1)) 2) == 1)) := by simpa using c16))
                    clear c16
                    obtain rfl := Option.some.inj H
                    exact absurd HR_.out (by decide)
                  · rw [if_neg c16] at H
                    have c16b0 : (((Int.tmod (wrap64 (Int.tdiv t170 x6_1)) 2) == 1) != ((Int.tmod (wrap64 (Int.tdiv (Int.tmod (rd t165 1) 32) x6_1)) 2) == 1)) = false := by simpa using c16
                    (try (have c16b1 : decide (((Int.tmod (wrap64 (Int.tdiv t170 x6_1)) 2) == 1) = ((Int.tmod (wrap64 (Int.tdiv (Int.tmod (rd t165 1) 32) x6_1)) 2) == 1)) = true := by simpa using c16))
                    (try (have c16b2 : (((Int.tmod (wrap64 (Int.tdiv t170 x6_1)) 2) == 1) == ((Int.tmod (wrap64 (Int.tdiv (Int.tmod (rd t165 1) 32) x6_1)) 2) == 1)) = true := by simpa using c16))
                    clear c16
                    replace H := Option.bind_eq_some_iff.mp H
                    obtain ⟨t172, A170, H⟩ := H
                    replace H : (if (((Int.tmod (wrap64 (Int.tdiv t172 x6_1)) 2) == 1) != false) = true then (some false) else (laws_FnEachFlag.l0 k1 (Int.tmod (rd t165 0) 32) (Int.tmod (rd t165 1) 32) (wrap64 (2 * x6_1)))) = some r := H
                    have A17 := Aside0.mk A170
                    clear A170
                    by_cases c18 : (((Int.tmod (wrap64 (Int.tdiv t172 x6_1)) 2) == 1) != false) = true
                    · rw [if_pos c18] at H
                      have c18b0 : (((Int.tmod (wrap64 (Int.tdiv t172 x6_1)) 2) == 1) != false) = true := c18
                      (try (have c18b1 : decide (((Int.tmod (wrap64 (Int.tdiv t172 x6_1)) 2) == 1) = false) = false := by simpa using c18))
                      (try (have c18b2 : (((Int.tmod (wrap64 (Int.tdiv t172 x6_1)) 2) == 1) == false) = false := by simpa using c18))
                      (try (have c18b3 : ¬ (((Int.tmod (wrap64 (Int.tdiv t172 x6_1)) 2) == 1) = false) := by simpa using c18))
                      clear c18
                      obtain rfl := Option.some.inj H
                      exact absurd HR_.out (by decide)
                    · rw [if_neg c18] at H
                      have c18b0 : (((Int.tmod (wrap64 (Int.tdiv t172 x6_1)) 2) == 1) != false) = false := by simpa using c18
                      (try (have c18b1 : decide (((Int.tmod (wrap64 (Int.tdiv t172 x6_1)) 2) == 1) = false) = true := by simpa using c18))
                      (try (have c18b2 : (((Int.tmod (wrap64 (Int.tdiv t172 x6_1)) 2) == 1) == false) = true := by simpa using c18))
                      clear c18
                      have H' := Aside0.mk H
                      clear H
                      go_wp2_with (first | ((with_reducible refine gate_callee (f := 12) rfl ?_); refine goesL_ (some 37) rfl rfl Try.func12 (by kernel_rfl) rfl #[.int .i64 (Int.tmod (rd t165 0) 32), .int .i64 2, .int .i64 (Int.tmod (rd t165 1) 32)] rfl (by (try simp only [List.map_toArray, List.map_cons, List.map_nil]); first | done | rfl | (simp only [List.length_drop, List.length_take]; rfl)) ?_; (with_reducible refine (impl_FlagsAfter.calls k1 (Int.tmod (rd t165 0) 32) 2 (Int.tmod (rd t165 1) 32) t170 _ A11.out).mono ?_); rintro e w' ⟨rfl, ⟨nd, rfl⟩⟩; refine ⟨_, rfl, ?_⟩) | (go_at_call 12; (with_reducible refine (impl_FlagsAfter.calls k1 (Int.tmod (rd t165 0) 32) 3 (Int.tmod (rd t165 1) 32) t172 _ A17.out).mono ?_); rintro e w' ⟨rfl, ⟨nd, rfl⟩⟩))
                      go_roundg k1
                      case measure => have := HK1.out; omega
                      case rel => exact ⟨(wrap64 (2 * x6_1)), (by first | rfl | (simp; done) | (simp [*]; done)), H', ⟨by have := HK1.out; omega⟩, ⟨by repeat (first | (with_reducible first | exact HB.out | apply below_alloc | apply pw_below_drewN | apply below_drew1) | exact HB.out)⟩⟩
            · rw [if_neg c9] at H
              have c9b0 : decide (x6_1 ≤ 16) = false := decide_eq_false c9
              clear c9
              replace H := Option.bind_eq_some_iff.mp H
              obtain ⟨t173, A190, H⟩ := H
              replace H : (if t173.toList = ([40, 41] : List UInt8) then ((impl_FlagsText.f k1 32).bind fun t174 => (if t174.toList = ([] : List UInt8) then ((impl_FlagsText.f k1 (Int.tmod (rd t165 0) 32)).bind fun t175 => ((spec_FlagsText.f k1 (Int.tmod (rd t165 0) 32)).bind fun t176 => (if t175.toList = t176.toList then ((impl_FlagsOk.f (-1)).bind fun t177 => (some (!t177))) else (some false)))) else (some false))) else (some false)) = some r := H
              have A19 := Aside0.mk A190
              clear A190
              by_cases c20 : t173.toList = ([40, 41] : List UInt8)
              · rw [if_pos c20] at H
                have c20b0 : (t173.toList == ([40, 41] : List UInt8)) = true := beq_iff_eq.mpr c20
                have c20b1 : (t173.toList != ([40, 41] : List UInt8)) = false := bne_eq_false_iff_eq.mpr c20
                clear c20
                replace H := Option.bind_eq_some_iff.mp H
                obtain ⟨t174, A210, H⟩ := H
                replace H : (if t174.toList = ([] : List UInt8) then ((impl_FlagsText.f k1 (Int.tmod (rd t165 0) 32)).bind fun t175 => ((spec_FlagsText.f k1 (Int.tmod (rd t165 0) 32)).bind fun t176 => (if t175.toList = t176.toList then ((impl_FlagsOk.f (-1)).bind fun t177 => (some (!t177))) else (some false)))) else (some false)) = some r := H
                have A21 := Aside0.mk A210
                clear A210
                by_cases c22 : t174.toList = ([] : List UInt8)
                · rw [if_pos c22] at H
                  have c22b0 : (t174.toList == ([] : List UInt8)) = true := beq_iff_eq.mpr c22
                  have c22b1 : (t174.toList != ([] : List UInt8)) = false := bne_eq_false_iff_eq.mpr c22
                  clear c22
                  replace H := Option.bind_eq_some_iff.mp H
                  obtain ⟨t175, A230, H⟩ := H
                  replace H : ((spec_FlagsText.f k1 (Int.tmod (rd t165 0) 32)).bind fun t176 => (if t175.toList = t176.toList then ((impl_FlagsOk.f (-1)).bind fun t177 => (some (!t177))) else (some false))) = some r := H
                  have A23 := Aside0.mk A230
                  clear A230
                  replace H := Option.bind_eq_some_iff.mp H
                  obtain ⟨t176, A240, H⟩ := H
                  replace H : (if t175.toList = t176.toList then ((impl_FlagsOk.f (-1)).bind fun t177 => (some (!t177))) else (some false)) = some r := H
                  have A24 := Aside0.mk A240
                  clear A240
                  by_cases c25 : t175.toList = t176.toList
                  · rw [if_pos c25] at H
                    have c25b0 : (t175.toList == t176.toList) = true := beq_iff_eq.mpr c25
                    have c25b1 : (t175.toList != t176.toList) = false := bne_eq_false_iff_eq.mpr c25
                    clear c25
                    replace H := Option.bind_eq_some_iff.mp H
                    obtain ⟨t177, A260, H⟩ := H
                    replace H : (some (!t177)) = some r := H
                    have A26 := Aside0.mk A260
                    clear A260
                    obtain rfl := Option.some.inj H
                    go_wp2_with (first | ((with_reducible refine gate_callee (f := 7) rfl ?_); refine goesL_ (some 62) rfl rfl Try.func7 (by kernel_rfl) rfl #[.int .i64 0] rfl (by (try simp only [List.map_toArray, List.map_cons, List.map_nil]); first | done | rfl | (simp only [List.length_drop, List.length_take]; rfl)) ?_; (with_reducible refine (impl_FlagsText.calls k1 0 t173 _ A19.out).mono ?_); rintro e w27 ⟨rfl, hb⟩; refine ⟨_, rfl, ?_⟩; have n0_ := Aside0.mk (below_step (by repeat (first | (with_reducible first | exact HB.out | apply below_alloc | apply pw_below_drewN | apply below_drew1) | exact HB.out)) hb); clear HB; have HB := n0_; clear n0_; (try clear hb); (try clear hb2); (try clear hk); (try clear hi)) | (go_at_call 7; (with_reducible refine (impl_FlagsText.calls k1 32 t174 _ A21.out).mono ?_); rintro e w28 ⟨rfl, hb⟩; have n0_ := Aside0.mk (below_step (by repeat (first | (with_reducible first | exact HB.out | apply below_alloc | apply pw_below_drewN | apply below_drew1) | exact HB.out)) hb); clear HB; have HB := n0_; clear n0_; (try clear hb); (try clear hb2); (try clear hk); (try clear hi)) | (go_at_call 7; (with_reducible refine (impl_FlagsText.calls k1 (Int.tmod (rd t165 0) 32) t175 _ A23.out).mono ?_); rintro e w29 ⟨rfl, hb⟩; have n0_ := Aside0.mk (below_step (by repeat (first | (with_reducible first | exact HB.out | apply below_alloc | apply pw_below_drewN | apply below_drew1) | exact HB.out)) hb); clear HB; have HB := n0_; clear n0_; (try clear hb); (try clear hb2); (try clear hk); (try clear hi)) | (go_at_call 6; (with_reducible refine (spec_FlagsText.calls k1 (Int.tmod (rd t165 0) 32) t176 _ A24.out).mono ?_); rintro e w30 ⟨rfl, hb⟩; have n0_ := Aside0.mk (below_step (by repeat (first | (with_reducible first | exact HB.out | apply below_alloc | apply pw_below_drewN | apply below_drew1) | exact HB.out)) hb); clear HB; have HB := n0_; clear n0_; (try clear hb); (try clear hb2); (try clear hk); (try clear hi)) | (go_at_call 13; (with_reducible refine (impl_FlagsOk.calls (-1) t177 _ A26.out).mono ?_); rintro e w' ⟨rfl, ⟨nd, rfl⟩⟩))
                    go_ret
                    exact ⟨by first | rfl | (simp [errW_none, errW_some] <;> rfl) | (simp [*, errW_none, errW_some] <;> rfl), by repeat (first | (with_reducible first | exact HB.out | apply below_alloc | apply pw_below_drewN | apply below_drew1) | exact HB.out)⟩
                  · rw [if_neg c25] at H
                    have c25b0 : (t175.toList == t176.toList) = false := beq_eq_false_iff_ne.mpr c25
                    have c25b1 : (t175.toList != t176.toList) = true := bne_iff_ne.mpr c25
                    obtain rfl := Option.some.inj H
                    exact absurd HR_.out (by decide)
                · rw [if_neg c22] at H
                  have c22b0 : (t174.toList == ([] : List UInt8)) = false := beq_eq_false_iff_ne.mpr c22
                  have c22b1 : (t174.toList != ([] : List UInt8)) = true := bne_iff_ne.mpr c22
                  obtain rfl := Option.some.inj H
                  exact absurd HR_.out (by decide)
              · rw [if_neg c20] at H
                have c20b0 : (t173.toList == ([40, 41] : List UInt8)) = false := beq_eq_false_iff_ne.mpr c20
                have c20b1 : (t173.toList != ([40, 41] : List UInt8)) = true := bne_iff_ne.mpr c20
                obtain rfl := Option.some.inj H
                exact absurd HR_.out (by decide)
      · rw [if_neg c6] at H
        exact absurd H (by simp)
    · rw [if_neg c5] at H
      exact absurd H (by simp)

/-- THE ONE PURE STATEMENT of laws_FnEachFlag: yours. -/
def laws_FnEachFlag.Pure : Prop := ∀ (l0 : List Int), l0.length ≤ maxLen → l0.length * 1 ≤ 140737488351232 → (∀ x ∈ l0, (Lit.int .u8 x).wf = true) → ∃ k, laws_FnEachFlag.f k l0 = some true
theorem laws_FnEachFlag.walk (P : laws_FnEachFlag.Pure) (a0 : Option Addr) (len0 cap0 : Nat) (z0 : List Int) (w : World) (w0 : (a0 = none ∧ len0 = 0 ∧ cap0 = 0 ∧ z0 = []) ∨ ∃ x, a0 = some x ∧ len0 ≤ cap0 ∧ cap0 ≤ maxLen ∧ z0.length = cap0 ∧ (∀ i, i < z0.length → w.cell? (x.add i) = some (.int .u8 (z0.getD i 0))) ∧ ∀ n ∈ z0, (Lit.int .u8 n).wf = true) (y0 : len0 * 1 ≤ 140737488351232) :
    Calls Try.prog 5 #[.slice a0 len0 cap0] w fun e w' => e = .returned (.bool true) ∧ Below w.heap.size w w' := by
  obtain ⟨l0, rfl, hr0, hm0, hw0, hc0⟩ := ReadsInt.ofRowC w0
  obtain ⟨k, h⟩ := P l0 hm0 y0 hw0
  refine (laws_FnEachFlag.calls k _ _ l0 true w (Kd.C_of_reads (d := (0 : Int)) (h1 := fun _ => rfl) hr0) hc0 rfl h).mono ?_
  rintro e w' ⟨rfl, hd⟩
  exact ⟨rfl, hd⟩

end Go.Proofs.Ytpeifbiboghceaa.PFnEachFlag
