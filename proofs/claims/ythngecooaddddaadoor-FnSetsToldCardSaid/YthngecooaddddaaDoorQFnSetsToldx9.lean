import Derived.Test.YthngecooaddddaaDoorQFnSetsToldx0
import Derived.Test.YthngecooaddddaaDoorQFnSetsToldx2
import Derived.Test.YthngecooaddddaaDoorQFnSetsToldx5
import Derived.Test.YthngecooaddddaaDoorQFnSetsToldx8
namespace Go.Proofs.YthngecooaddddaaDoor.PFnSetsTold
open Go.RowKit Go.Proofs.YthngecooaddddaaDoorW.PrintWords Go.Proofs.YthngecooaddddaaDoorW.PrintLast Go.Proofs.YthngecooaddddaaDoorW.PrintMore
attribute [local go_sem] max2_int min2_int max_two min_two max_three min_three max_four min_four   -- for this text's walks alone
set_option linter.unusedVariables false
set_option linter.unusedSimpArgs false

/-! ### impl_ReadSet: function 17 -/
def impl_ReadSet.l0 : Nat → Int → List ByteArray → Int → Int → List (S40) → Option ((List (S40)) × Bool)
 | 0, _, _, _, _, _ => none
 | k + 1, x1, x24, x25, x26, x395000 => if x26 < x25 then (if 0 ≤ x26 then (if x26 < (x24.length : Int) then ((strings_Cut.f (rdOf ByteArray.empty x24 x26) (⟨#[58]⟩ : ByteArray)).bind fun bt403 => ((impl_readUid.f k bt403.1 x1).bind fun bt406 => (if bt403.2.2 = true then ((impl_readUid.f k bt403.2.1 x1).bind fun bt408 => (if bt406.2 = true then (if bt408.2 = true then (if x395000.length < 8796093022208 then (impl_ReadSet.l0 k x1 x24 x25 (wrap64 (x26 + 1)) (x395000 ++ [(⟨mn bt406.1 bt408.1, mx bt406.1 bt408.1⟩ : S40)])) else (none)) else (some (([] : List (S40)), false))) else (some (([] : List (S40)), false)))) else (if bt406.2 = true then (if x395000.length < 8796093022208 then (impl_ReadSet.l0 k x1 x24 x25 (wrap64 (x26 + 1)) (x395000 ++ [(⟨bt406.1, bt406.1⟩ : S40)])) else (none)) else (some (([] : List (S40)), false)))))) else (none)) else (none)) else ((impl_ReadSet_1.f k x395000).bind fun bt398 => (if bt398.2 = true then (some (bt398.1, true)) else (some (([] : List (S40)), false))))
def impl_ReadSet.f (k : Nat) (a0 : ByteArray) (a1 : Int) : Option ((List (S40)) × Bool) := (impl_isUid.f a1).bind fun t390 => (if t390 = true then ((strings_Split.f a0 (⟨#[44]⟩ : ByteArray)).bind fun t395 => (impl_ReadSet.l0 k a1 t395 (t395.length : Int) 0 (([] : List (S40))))) else (some (([] : List (S40)), false)))
theorem impl_ReadSet.mono_l : ∀ k, (∀ y0 y1 y2 y3 y4, LeO (impl_ReadSet.l0 k y0 y1 y2 y3 y4) (impl_ReadSet.l0 (k + 1) y0 y1 y2 y3 y4))
 | 0 => fun _ _ _ _ _ r h => by simp [impl_ReadSet.l0] at h
 | k + 1 => by
  have ih0 := impl_ReadSet.mono_l k
  ·intro y0 y1 y2 y3 y4
   unfold impl_ReadSet.l0
   repeat' first
   | (with_reducible exact ih0 _ _ _ _ _)
   | (with_reducible exact impl_ReadSet_1.mono _ _)
   | (with_reducible exact impl_readUid.mono _ _ _)
   | (with_reducible exact LeO.refl _)
   | (with_reducible exact LeO.none _)
   | (with_reducible refine LeO.ite ?_ ?_)
   | (with_reducible refine LeO.bind ?_ (fun _ => ?_))
   | exact ih0 _ _ _ _ _
   | exact impl_ReadSet_1.mono _ _
   | exact impl_readUid.mono _ _ _
   | exact LeO.none _
   | refine LeO.ite ?_ ?_
   | refine LeO.bind ?_ (fun _ => ?_)
theorem impl_ReadSet.mono : ∀ a0 a1 k, LeO (impl_ReadSet.f k a0 a1) (impl_ReadSet.f (k + 1) a0 a1) := by
 intro a0 a1 k
 have ih0 := impl_ReadSet.mono_l k
 unfold impl_ReadSet.f
 repeat' first
   | (with_reducible exact ih0 _ _ _ _ _)
   | (with_reducible exact impl_ReadSet_1.mono _ _)
   | (with_reducible exact impl_readUid.mono _ _ _)
   | (with_reducible exact LeO.refl _)
   | (with_reducible exact LeO.none _)
   | (with_reducible refine LeO.ite ?_ ?_)
   | (with_reducible refine LeO.bind ?_ (fun _ => ?_))
   | exact ih0 _ _ _ _ _
   | exact impl_ReadSet_1.mono _ _
   | exact impl_readUid.mono _ _ _
   | exact LeO.none _
   | refine LeO.ite ?_ ?_
   | refine LeO.bind ?_ (fun _ => ?_)
set_option maxHeartbeats 8000000 in
set_option maxRecDepth 100000 in
theorem impl_ReadSet.calls (k : Nat) (a0 : ByteArray) (a1 : Int) (r1 : List (S40)) (r2 : Bool) (w : World) (hgl : GlobOk w) (h : impl_ReadSet.f k a0 a1 = some (r1, r2)) :
  Calls Tryd.prog 17 #[.string a0, .int .i64 a1] w fun e w' => ∃ v0_ : Value, e = .returned (.tuple #[v0_, .bool r2]) ∧ Kd.R k40 40 w' w.heap.size (fun _ => True) v0_ r1 ∧ Below w.heap.size w w' := by
 have hu40 := Tryd.underlying40
 have HB := Aside0.mk (Below.refl w.heap.size w)
 have HGL := Aside0.mk hgl
 clear hgl
 have H : ((impl_isUid.f a1).bind fun t390 => (if t390 = true then ((strings_Split.f a0 (⟨#[44]⟩ : ByteArray)).bind fun t395 => (impl_ReadSet.l0 k a1 t395 (t395.length : Int) 0 (([] : List (S40))))) else (some (([] : List (S40)), false)))) = some (r1, r2) := h
 clear h
 replace H := Option.bind_eq_some_iff.mp H
 obtain ⟨t390, A30, H⟩ := H
 have A3 := Aside0.mk A30
 clear A30
 by_cases c4 : t390 = true
 ·subst c4
  rw [if_pos rfl] at H
  obtain ⟨y391, hy391⟩ : ∃ y_ : List (S40), y_ = (([] : List (S40))) := ⟨_, rfl⟩
  replace H : ((strings_Split.f a0 (⟨#[44]⟩ : ByteArray)).bind fun t395 => (impl_ReadSet.l0 k a1 t395 (t395.length : Int) 0 y391)) = some (r1, r2) := by first | (rw [hy391]; with_reducible exact H) | (have H2_ := (Option.bind_some _ _).symm.trans H; rw [hy391]; with_reducible exact H2_) | (have H2_ := (Option.bind_some _ _).symm.trans H; with_reducible exact H2_) | with_reducible exact H | (rw [hy391]; exact H) | exact H
  have Ny391 := Aside0.mk hy391
  clear hy391
  replace H := Option.bind_eq_some_iff.mp H
  obtain ⟨t395, A50, H⟩ := H
  have A5 := Aside0.mk A50
  clear A50
  have H' := Aside0.mk H
  clear H
  go_enter Tryd.func17, Tryd.ntmps17
  go_wp2_with (first | ((with_reducible refine gate_callee (f := 36) rfl ?_); refine zG (some 20) Tryd.func36 #[.int .i64 a1] ?_; (with_reducible refine (impl_isUid.calls a1 true _ A3.out).mono ?_); rintro e w' ⟨rfl, ⟨nd, rfl⟩⟩; refine ⟨_, rfl, ?_⟩) | ((with_reducible refine gate_dst (N := 22) rfl ?_); refine Kd.R_lit k40 _ 40 ?hg (N := 22) ?hd (xs := ([] : List (S40))) (inner := []) (ok := fun _ => True) (okp := fun _ => True) ?hr ?hp (fun _ hk => hk) trivial (Below.refl _ _) (Nat.le_refl _) (by simp) ?_; (case hd => rfl); (case hg => rfl); (case hr => first | (go_simp; done) | (go_simp; rfl)); (case hp => exact (Reps.none _ _)); intro v392 w6 ho7 hb hg_ hnew_; clear hg_ hnew_; (first | rw [← Ny391.out] at ho7 | (simp only [Int.reduceToNat] at ho7; rw [← Ny391.out] at ho7)); have HO393 := Aside0.mk (Kd.R_lower ho7 (below_size (zw HB))); replace HB := zs HB hb; clear hb ho7) | ((with_reducible refine gate_dst (N := 6) rfl ?_); refine zx (N := 6) (cs := #[.slice none 0 0]) (t := 24) ?_; intro gb394 hg w8 hbox hb; replace HO393 := Aside0.mk (Kd.R_below (zo HO393.out) hb); have BK394 := Aside0.mk (hbox); have GW394 := zg HB hg; have GE394 := zg HB hg; replace HB := zs HB hb; clear hb hbox hg; obtain ⟨Ao9, co9, eo9⟩ := Kd.R_slice HO393.out; subst eo9; have hcz10_0 : w8.cell? ⟨gb394, 0, none⟩ = some (.slice none 0 0) := (blk_cell BK394.out 0).trans rfl; have hfz10_0 := blk_frozen BK394.out 0) | ((with_reducible refine gate_callee (f := 48) rfl ?_); refine zG (some 24) Tryd.func48 #[.string a0, .string (⟨#[44]⟩ : ByteArray)] ?_; (with_reducible refine (strings_Split.calls a0 (⟨#[44]⟩ : ByteArray) t395 _ ?sidegl A5.out).mono ?_); (case sidegl => exact HGL.out.of (zw HB)); rintro e w11 ⟨v396, rfl, ho0, hb⟩; refine ⟨_, rfl, ?_⟩; replace HO393 := Aside0.mk (Kd.R_below (zo ((Kd.R_mono (Kd.R_far (p := ⟨gb394, 0, none⟩) (Kd.R_types HO393.out BK394.out (by decide)) (fun _ hk => hk.2) (.slice Ao9 y391.length co9)) (fun _ h_ => h_.1)))) hb); have HO397 := Aside0.mk (Kd.R_lower ho0 (below_size (zw HB))); replace BK394 := Aside0.mk (blk_below (g := gb394) (o := .cells #[.slice Ao9 y391.length co9] 24 (0, 0)) (by (with_reducible repeat (first | refine blk_drewN ?_ _ | refine blk_drew ?_ | refine blk_alloc ?_ _)); refine blk_put (cs := #[.slice none 0 0]) ?_ 0 _ rfl; (with_reducible repeat (first | refine blk_drewN ?_ _ | refine blk_drew ?_ | refine blk_alloc ?_ _)); exact BK394.out) hb); replace HB := zs HB hb; clear ho0 hb; obtain ⟨Ao12, co12, eo12⟩ := Kd.R_slice HO397.out; subst eo12))
  go_loopg [26] k (fun kq v26 w' => ∃ (x26_1 : Int) (x395000_1 : List (S40)) (u395000 : Value), v26 = .int .i64 x26_1 ∧ Aside0 (impl_ReadSet.l0 kq a1 t395 (t395.length : Int) x26_1 x395000_1 = some (r1, r2)) ∧ Aside0 (kq ≤ k) ∧ Aside0 (Kd.R Kd.string 9 w' w.heap.size (fun _ => True) (.slice Ao12 t395.length co12) t395) ∧ Aside0 (Kd.R k40 40 w' w.heap.size (fun _ => True) u395000 x395000_1) ∧ Aside0 (w'.heap[gb394]? = some (.cells #[u395000] 24 (0, 0))) ∧ Aside0 (Below w.heap.size w w'))
  case atStart => exact ⟨(0), (y391), (.slice Ao9 y391.length co9), zf, H', ⟨Nat.le_refl _⟩, ⟨zo HO397.out⟩, ⟨zo HO393.out⟩, ⟨by (with_reducible repeat (first | refine blk_drewN ?_ _ | refine blk_drew ?_ | refine blk_alloc ?_ _)); exact BK394.out⟩, ⟨zw HB⟩⟩
  case round =>
   clear H'
   try clear c1
   try clear p2
   try clear c3
   try clear c4
   try clear hcz10_0
   try clear hfz10_0
   obtain ⟨x26_1, x395000_1, u395000, rfl, HA, HK1, HO_24, HO_395000, BK394, HB⟩ := hrel
   cases gk with
   | zero => exact absurd HA.out (by simp [impl_ReadSet.l0])
   | succ k1 =>
    have H := HA.out
    clear HA
    simp only [impl_ReadSet.l0] at H
    by_cases c13 : x26_1 < (t395.length : Int)
    ·rw [if_pos c13] at H
     have c13b0 : decide (x26_1 < (t395.length : Int)) = true := decide_eq_true c13
     clear c13
     by_cases c14 : 0 ≤ x26_1
     ·rw [if_pos c14] at H
      have c14b0 : decide (0 ≤ x26_1) = true := decide_eq_true c14
      clear c14
      by_cases c15 : x26_1 < (t395.length : Int)
      ·rw [if_pos c15] at H
       have c15b0 : decide (x26_1 < (t395.length : Int)) = true := decide_eq_true c15
       clear c15
       replace H := Option.bind_eq_some_iff.mp H
       obtain ⟨⟨t403, t404, t405⟩, A160, H⟩ := H
       replace H : ((impl_readUid.f k1 t403 a1).bind fun bt406 => (if t405 = true then ((impl_readUid.f k1 t404 a1).bind fun bt408 => (if bt406.2 = true then (if bt408.2 = true then (if x395000_1.length < 8796093022208 then (impl_ReadSet.l0 k1 a1 t395 (t395.length : Int) (wrap64 (x26_1 + 1)) (x395000_1 ++ [(⟨mn bt406.1 bt408.1, mx bt406.1 bt408.1⟩ : S40)])) else (none)) else (some (([] : List (S40)), false))) else (some (([] : List (S40)), false)))) else (if bt406.2 = true then (if x395000_1.length < 8796093022208 then (impl_ReadSet.l0 k1 a1 t395 (t395.length : Int) (wrap64 (x26_1 + 1)) (x395000_1 ++ [(⟨bt406.1, bt406.1⟩ : S40)])) else (none)) else (some (([] : List (S40)), false))))) = some (r1, r2) := H
       have A16 := Aside0.mk A160
       clear A160
       replace H := Option.bind_eq_some_iff.mp H
       obtain ⟨⟨t406, t407⟩, A170, H⟩ := H
       replace H : (if t405 = true then ((impl_readUid.f k1 t404 a1).bind fun bt408 => (if t407 = true then (if bt408.2 = true then (if x395000_1.length < 8796093022208 then (impl_ReadSet.l0 k1 a1 t395 (t395.length : Int) (wrap64 (x26_1 + 1)) (x395000_1 ++ [(⟨mn t406 bt408.1, mx t406 bt408.1⟩ : S40)])) else (none)) else (some (([] : List (S40)), false))) else (some (([] : List (S40)), false)))) else (if t407 = true then (if x395000_1.length < 8796093022208 then (impl_ReadSet.l0 k1 a1 t395 (t395.length : Int) (wrap64 (x26_1 + 1)) (x395000_1 ++ [(⟨t406, t406⟩ : S40)])) else (none)) else (some (([] : List (S40)), false)))) = some (r1, r2) := H
       have A17 := Aside0.mk A170
       clear A170
       by_cases c18 : t405 = true
       ·subst c18
        rw [if_pos rfl] at H
        replace H := Option.bind_eq_some_iff.mp H
        obtain ⟨⟨t408, t409⟩, A190, H⟩ := H
        replace H : (if t407 = true then (if t409 = true then (if x395000_1.length < 8796093022208 then (impl_ReadSet.l0 k1 a1 t395 (t395.length : Int) (wrap64 (x26_1 + 1)) (x395000_1 ++ [(⟨mn t406 t408, mx t406 t408⟩ : S40)])) else (none)) else (some (([] : List (S40)), false))) else (some (([] : List (S40)), false))) = some (r1, r2) := H
        have A19 := Aside0.mk A190
        clear A190
        by_cases c20 : t407 = true
        ·subst c20
         rw [if_pos rfl] at H
         by_cases c21 : t409 = true
         ·subst c21
          rw [if_pos rfl] at H
          obtain ⟨ji22, hji22⟩ : ∃ j_ : Int, (mn t406 t408) = j_ := ⟨_, rfl⟩
          replace H : (if x395000_1.length < 8796093022208 then (impl_ReadSet.l0 k1 a1 t395 (t395.length : Int) (wrap64 (x26_1 + 1)) (x395000_1 ++ [(⟨ji22, mx t406 t408⟩ : S40)])) else (none)) = some (r1, r2) := by first | (rw [hji22] at H; exact H) | (simp only [hji22] at H ⊢; exact H)
          (try rw [hji22] at A16)
          (try rw [hji22] at A17)
          (try rw [hji22] at A19)
          have hji22_ : (if t408 < t406 then t408 else t406) = ji22 := hji22
          obtain ⟨ji23, hji23⟩ : ∃ j_ : Int, (mx t406 t408) = j_ := ⟨_, rfl⟩
          replace H : (if x395000_1.length < 8796093022208 then (impl_ReadSet.l0 k1 a1 t395 (t395.length : Int) (wrap64 (x26_1 + 1)) (x395000_1 ++ [(⟨ji22, ji23⟩ : S40)])) else (none)) = some (r1, r2) := by first | (rw [hji23] at H; exact H) | (simp only [hji23] at H ⊢; exact H)
          (try rw [hji23] at A16)
          (try rw [hji23] at A17)
          (try rw [hji23] at A19)
          have hji23_ : (if t406 < t408 then t408 else t406) = ji23 := hji23
          by_cases c24 : x395000_1.length < 8796093022208
          ·rw [if_pos c24] at H
           have LMc24 := Aside0.mk c24
           clear c24
           obtain ⟨y410, hy410⟩ : ∃ y_ : List (S40), y_ = (x395000_1 ++ [(⟨ji22, ji23⟩ : S40)]) := ⟨_, rfl⟩
           replace H : (impl_ReadSet.l0 k1 a1 t395 (t395.length : Int) (wrap64 (x26_1 + 1)) y410) = some (r1, r2) := by first | (rw [hy410]; with_reducible exact H) | (have H2_ := (Option.bind_some _ _).symm.trans H; rw [hy410]; with_reducible exact H2_) | (have H2_ := (Option.bind_some _ _).symm.trans H; with_reducible exact H2_) | with_reducible exact H | (rw [hy410]; exact H) | exact H
           have Ny410 := Aside0.mk hy410
           clear hy410
           have H' := Aside0.mk H
           clear H
           have p402 : 0 ≤ (x26_1 : Int) := of_decide_eq_true za
           have q402 : x26_1 < (t395.length : Int) := of_decide_eq_true za
           obtain ⟨ad402, e402, hx402_0⟩ := Kd.at_string (Kd.R_reads' HO_24.out).2.2 x26_1 p402 q402
           cases e402
           replace p402 := eq_true p402
           replace q402 := eq_true q402
           go_wp2_with (first | ((with_reducible refine gate_callee (f := 49) rfl ?_); refine zG (some 32) Tryd.func49 #[.string (rdOf ByteArray.empty t395 x26_1), .string (⟨#[58]⟩ : ByteArray)] ?_; (with_reducible refine (strings_Cut.calls (rdOf ByteArray.empty t395 x26_1) (⟨#[58]⟩ : ByteArray) t403 t404 true _ ?sidegl A16.out).mono ?_); (case sidegl => exact HGL.out.of (zw HB)); rintro e w25 ⟨rfl, hb⟩; refine ⟨_, rfl, ?_⟩; replace HO_24 := Aside0.mk (Kd.R_below (zo HO_24.out) hb); replace HO_395000 := Aside0.mk (Kd.R_below (zo HO_395000.out) hb); replace BK394 := zb BK394 hb; replace HB := zs HB hb; clear hb) | ((with_reducible refine gate_callee (f := 50) rfl ?_); refine zG (some 39) Tryd.func50 #[.string t403, .int .i64 a1] ?_; (with_reducible refine (impl_readUid.calls k1 t403 a1 t406 true _ A17.out).mono ?_); rintro e w' ⟨rfl, ⟨nd, rfl⟩⟩; refine ⟨_, rfl, ?_⟩; (try (rw [drewN_self w25]; generalize hq_ : World.drewN w25 _ = w25; have n0_ : Aside0 (Kd.R Kd.string 9 w25 w.heap.size (fun _ => True) (.slice (some ad402) t395.length co12) t395) := ⟨by rw [← hq_]; exact (zo HO_24.out)⟩; have n1_ : Aside0 (Kd.R k40 40 w25 w.heap.size (fun _ => True) u395000 x395000_1) := ⟨by rw [← hq_]; exact (zo HO_395000.out)⟩; have n2_ : Aside0 (w25.heap[gb394]? = some (.cells #[u395000] 24 (0, 0))) := ⟨by rw [← hq_]; exact (zk BK394)⟩; have n3_ : Aside0 (Below w.heap.size w w25) := ⟨by rw [← hq_]; exact (zw HB)⟩; clear HO_24 HO_395000 BK394 HB hq_; have HO_24 := n0_; have HO_395000 := n1_; have BK394 := n2_; have HB := n3_; clear n0_ n1_ n2_ n3_))) | ((with_reducible refine gate_callee (f := 50) rfl ?_); refine zG (some 47) Tryd.func50 #[.string t404, .int .i64 a1] ?_; (with_reducible refine (impl_readUid.calls k1 t404 a1 t408 true _ A19.out).mono ?_); rintro e w' ⟨rfl, ⟨nd, rfl⟩⟩; refine ⟨_, rfl, ?_⟩; (try (rw [drewN_self w25]; generalize hq_ : World.drewN w25 _ = w25; have n0_ : Aside0 (Kd.R Kd.string 9 w25 w.heap.size (fun _ => True) (.slice (some ad402) t395.length co12) t395) := ⟨by rw [← hq_]; exact (zo HO_24.out)⟩; have n1_ : Aside0 (Kd.R k40 40 w25 w.heap.size (fun _ => True) u395000 x395000_1) := ⟨by rw [← hq_]; exact (zo HO_395000.out)⟩; have n2_ : Aside0 (w25.heap[gb394]? = some (.cells #[u395000] 24 (0, 0))) := ⟨by rw [← hq_]; exact (zk BK394)⟩; have n3_ : Aside0 (Below w.heap.size w w25) := ⟨by rw [← hq_]; exact (zw HB)⟩; clear HO_24 HO_395000 BK394 HB hq_; have HO_24 := n0_; have HO_395000 := n1_; have BK394 := n2_; have HB := n3_; clear n0_ n1_ n2_ n3_)); have hcz26_0 : w25.cell? ⟨gb394, 0, none⟩ = some (u395000) := (blk_cell BK394.out 0).trans rfl; have hfz26_0 := blk_frozen BK394.out 0) | ((with_reducible refine gate_builtin (b := .append) (xs := #[.tmp 57, .tmp 65]) rfl ?_); at_builtin; refine Kd.R_append k40 (w0 := w) w.heap.size rfl (.tmp 57) (.tmp 65) 24 40 (.agg #[(.int .i64 0), (.int .i64 0)]) 16 rfl Tryd.underlying24 info40 rfl (by decide) (by omega) u395000 x395000_1 (⟨ji22, ji23⟩ : S40) [.int .i64 ji22, .int .i64 ji23] (fun _ => True) (fun _ => False) rfl rfl ?aP (fun _ hk => hk.elim) ?aF ?aO ?aB ?aS ?aL ?_; (case aP => exact k40_mkM _ _ _ (⟨ji22, ji23⟩ : S40)); (case aB => exact (zw HB)); (case aF => exact (fun _ _ => trivial)); (case aO => exact (zo HO_395000.out)); (case aS => exact (below_size (zw HB))); (case aL => have := LMc24.out; omega); intro v411 w27 ho hb hg hat; rw [← Ny410.out] at ho; replace HO_24 := Aside0.mk (Kd.R_over' (zo HO_24.out) (Kd.R_typed (zo HO_395000.out)) (by decide) hg); replace BK394 := Aside0.mk (blk_grown (g := gb394) (o := .cells #[u395000] 24 (0, 0)) (zk BK394) hg (Kd.R_ne HO_395000.out BK394.out (by decide))); replace HB := Aside0.mk (hb); have HO412 := Aside0.mk (ho); clear HO_395000; clear ho hb hg hat; obtain ⟨Ao28, co28, eo28⟩ := Kd.R_slice HO412.out; subst eo28; have hcz29_0 : w27.cell? ⟨gb394, 0, none⟩ = some (u395000) := (blk_cell BK394.out 0).trans rfl; have hfz29_0 := blk_frozen BK394.out 0))
           go_roundg k1
           case measure => have := HK1.out; omega
           case rel => exact ⟨(wrap64 (x26_1 + 1)), (y410), (.slice Ao28 y410.length co28), zf, H', ⟨by have := HK1.out; omega⟩, ⟨zo (Kd.R_mono (Kd.R_far (p := ⟨gb394, 0, none⟩) (Kd.R_types HO_24.out BK394.out (by decide)) (fun _ hk => hk.2) (.slice Ao28 y410.length co28)) (fun _ hk => trivial))⟩, ⟨zo (Kd.R_mono (Kd.R_far (p := ⟨gb394, 0, none⟩) (Kd.R_types HO412.out BK394.out (by decide)) (fun _ hk => hk.2) (.slice Ao28 y410.length co28)) (fun _ hk => trivial))⟩, ⟨by (with_reducible repeat (first | refine blk_drewN ?_ _ | refine blk_drew ?_ | refine blk_alloc ?_ _)); refine blk_put (cs := #[u395000]) ?_ 0 _ rfl; (with_reducible repeat (first | refine blk_drewN ?_ _ | refine blk_drew ?_ | refine blk_alloc ?_ _)); exact BK394.out⟩, ⟨zw HB⟩⟩
          ·rw [if_neg c24] at H
           exact absurd H (by simp)
         ·replace c21 := Bool.eq_false_iff.mpr c21
          subst c21
          rw [if_neg (show ¬ (false = true) by decide)] at H
          simp only [Option.some.injEq, Prod.mk.injEq] at H
          obtain ⟨rfl, rfl⟩ := H
          have p402 : 0 ≤ (x26_1 : Int) := of_decide_eq_true za
          have q402 : x26_1 < (t395.length : Int) := of_decide_eq_true za
          obtain ⟨ad402, e402, hx402_0⟩ := Kd.at_string (Kd.R_reads' HO_24.out).2.2 x26_1 p402 q402
          cases e402
          replace p402 := eq_true p402
          replace q402 := eq_true q402
          go_wp2_with (first | ((with_reducible refine gate_callee (f := 49) rfl ?_); refine zG (some 32) Tryd.func49 #[.string (rdOf ByteArray.empty t395 x26_1), .string (⟨#[58]⟩ : ByteArray)] ?_; (with_reducible refine (strings_Cut.calls (rdOf ByteArray.empty t395 x26_1) (⟨#[58]⟩ : ByteArray) t403 t404 true _ ?sidegl A16.out).mono ?_); (case sidegl => exact HGL.out.of (zw HB)); rintro e w30 ⟨rfl, hb⟩; refine ⟨_, rfl, ?_⟩; replace HO_24 := Aside0.mk (Kd.R_below (zo HO_24.out) hb); replace HO_395000 := Aside0.mk (Kd.R_below (zo HO_395000.out) hb); replace BK394 := zb BK394 hb; replace HB := zs HB hb; clear hb) | ((with_reducible refine gate_callee (f := 50) rfl ?_); refine zG (some 39) Tryd.func50 #[.string t403, .int .i64 a1] ?_; (with_reducible refine (impl_readUid.calls k1 t403 a1 t406 true _ A17.out).mono ?_); rintro e w' ⟨rfl, ⟨nd, rfl⟩⟩; refine ⟨_, rfl, ?_⟩) | ((with_reducible refine gate_callee (f := 50) rfl ?_); refine zG (some 47) Tryd.func50 #[.string t404, .int .i64 a1] ?_; (with_reducible refine (impl_readUid.calls k1 t404 a1 t408 false _ A19.out).mono ?_); rintro e w' ⟨rfl, ⟨nd, rfl⟩⟩; refine ⟨_, rfl, ?_⟩))
          go_ret2
          exact ⟨_, ze, by first | exact Kd.R_nil _ _ _ _ _ | exact Kd.N_nil _ _ _ _ _ | exact Kd.V_nil _ _ _ _ _ | exact Kd.Q_nil _ _ _ _ _ | exact Kd.S_nil _ _ _ _ _, zw HB⟩
        ·replace c20 := Bool.eq_false_iff.mpr c20
         subst c20
         rw [if_neg (show ¬ (false = true) by decide)] at H
         simp only [Option.some.injEq, Prod.mk.injEq] at H
         obtain ⟨rfl, rfl⟩ := H
         have p402 : 0 ≤ (x26_1 : Int) := of_decide_eq_true za
         have q402 : x26_1 < (t395.length : Int) := of_decide_eq_true za
         obtain ⟨ad402, e402, hx402_0⟩ := Kd.at_string (Kd.R_reads' HO_24.out).2.2 x26_1 p402 q402
         cases e402
         replace p402 := eq_true p402
         replace q402 := eq_true q402
         go_wp2_with (first | ((with_reducible refine gate_callee (f := 49) rfl ?_); refine zG (some 32) Tryd.func49 #[.string (rdOf ByteArray.empty t395 x26_1), .string (⟨#[58]⟩ : ByteArray)] ?_; (with_reducible refine (strings_Cut.calls (rdOf ByteArray.empty t395 x26_1) (⟨#[58]⟩ : ByteArray) t403 t404 true _ ?sidegl A16.out).mono ?_); (case sidegl => exact HGL.out.of (zw HB)); rintro e w31 ⟨rfl, hb⟩; refine ⟨_, rfl, ?_⟩; replace HO_24 := Aside0.mk (Kd.R_below (zo HO_24.out) hb); replace HO_395000 := Aside0.mk (Kd.R_below (zo HO_395000.out) hb); replace BK394 := zb BK394 hb; replace HB := zs HB hb; clear hb) | ((with_reducible refine gate_callee (f := 50) rfl ?_); refine zG (some 39) Tryd.func50 #[.string t403, .int .i64 a1] ?_; (with_reducible refine (impl_readUid.calls k1 t403 a1 t406 false _ A17.out).mono ?_); rintro e w' ⟨rfl, ⟨nd, rfl⟩⟩; refine ⟨_, rfl, ?_⟩) | ((with_reducible refine gate_callee (f := 50) rfl ?_); refine zG (some 47) Tryd.func50 #[.string t404, .int .i64 a1] ?_; (with_reducible refine (impl_readUid.calls k1 t404 a1 t408 t409 _ A19.out).mono ?_); rintro e w' ⟨rfl, ⟨nd, rfl⟩⟩; refine ⟨_, rfl, ?_⟩))
         go_ret2
         exact ⟨_, ze, by first | exact Kd.R_nil _ _ _ _ _ | exact Kd.N_nil _ _ _ _ _ | exact Kd.V_nil _ _ _ _ _ | exact Kd.Q_nil _ _ _ _ _ | exact Kd.S_nil _ _ _ _ _, zw HB⟩
       ·replace c18 := Bool.eq_false_iff.mpr c18
        subst c18
        rw [if_neg (show ¬ (false = true) by decide)] at H
        by_cases c32 : t407 = true
        ·subst c32
         rw [if_pos rfl] at H
         by_cases c35 : x395000_1.length < 8796093022208
         ·rw [if_pos c35] at H
          have LMc35 := Aside0.mk c35
          clear c35
          obtain ⟨y413, hy413⟩ : ∃ y_ : List (S40), y_ = (x395000_1 ++ [(⟨t406, t406⟩ : S40)]) := ⟨_, rfl⟩
          replace H : (impl_ReadSet.l0 k1 a1 t395 (t395.length : Int) (wrap64 (x26_1 + 1)) y413) = some (r1, r2) := by first | (rw [hy413]; with_reducible exact H) | (have H2_ := (Option.bind_some _ _).symm.trans H; rw [hy413]; with_reducible exact H2_) | (have H2_ := (Option.bind_some _ _).symm.trans H; with_reducible exact H2_) | with_reducible exact H | (rw [hy413]; exact H) | exact H
          have Ny413 := Aside0.mk hy413
          clear hy413
          have H' := Aside0.mk H
          clear H
          have p402 : 0 ≤ (x26_1 : Int) := of_decide_eq_true za
          have q402 : x26_1 < (t395.length : Int) := of_decide_eq_true za
          obtain ⟨ad402, e402, hx402_0⟩ := Kd.at_string (Kd.R_reads' HO_24.out).2.2 x26_1 p402 q402
          cases e402
          replace p402 := eq_true p402
          replace q402 := eq_true q402
          go_wp2_with (first | ((with_reducible refine gate_callee (f := 49) rfl ?_); refine zG (some 32) Tryd.func49 #[.string (rdOf ByteArray.empty t395 x26_1), .string (⟨#[58]⟩ : ByteArray)] ?_; (with_reducible refine (strings_Cut.calls (rdOf ByteArray.empty t395 x26_1) (⟨#[58]⟩ : ByteArray) t403 t404 false _ ?sidegl A16.out).mono ?_); (case sidegl => exact HGL.out.of (zw HB)); rintro e w36 ⟨rfl, hb⟩; refine ⟨_, rfl, ?_⟩; replace HO_24 := Aside0.mk (Kd.R_below (zo HO_24.out) hb); replace HO_395000 := Aside0.mk (Kd.R_below (zo HO_395000.out) hb); replace BK394 := zb BK394 hb; replace HB := zs HB hb; clear hb) | ((with_reducible refine gate_callee (f := 50) rfl ?_); refine zG (some 39) Tryd.func50 #[.string t403, .int .i64 a1] ?_; (with_reducible refine (impl_readUid.calls k1 t403 a1 t406 true _ A17.out).mono ?_); rintro e w' ⟨rfl, ⟨nd, rfl⟩⟩; refine ⟨_, rfl, ?_⟩; (try (rw [drewN_self w36]; generalize hq_ : World.drewN w36 _ = w36; have n0_ : Aside0 (Kd.R Kd.string 9 w36 w.heap.size (fun _ => True) (.slice (some ad402) t395.length co12) t395) := ⟨by rw [← hq_]; exact (zo HO_24.out)⟩; have n1_ : Aside0 (Kd.R k40 40 w36 w.heap.size (fun _ => True) u395000 x395000_1) := ⟨by rw [← hq_]; exact (zo HO_395000.out)⟩; have n2_ : Aside0 (w36.heap[gb394]? = some (.cells #[u395000] 24 (0, 0))) := ⟨by rw [← hq_]; exact (zk BK394)⟩; have n3_ : Aside0 (Below w.heap.size w w36) := ⟨by rw [← hq_]; exact (zw HB)⟩; clear HO_24 HO_395000 BK394 HB hq_; have HO_24 := n0_; have HO_395000 := n1_; have BK394 := n2_; have HB := n3_; clear n0_ n1_ n2_ n3_)); have hcz37_0 : w36.cell? ⟨gb394, 0, none⟩ = some (u395000) := (blk_cell BK394.out 0).trans rfl; have hfz37_0 := blk_frozen BK394.out 0) | ((with_reducible refine gate_builtin (b := .append) (xs := #[.tmp 57, .tmp 65]) rfl ?_); at_builtin; refine Kd.R_append k40 (w0 := w) w.heap.size rfl (.tmp 57) (.tmp 65) 24 40 (.agg #[(.int .i64 0), (.int .i64 0)]) 16 rfl Tryd.underlying24 info40 rfl (by decide) (by omega) u395000 x395000_1 (⟨t406, t406⟩ : S40) [.int .i64 t406, .int .i64 t406] (fun _ => True) (fun _ => False) rfl rfl ?aP (fun _ hk => hk.elim) ?aF ?aO ?aB ?aS ?aL ?_; (case aP => exact k40_mkM _ _ _ (⟨t406, t406⟩ : S40)); (case aB => exact (zw HB)); (case aF => exact (fun _ _ => trivial)); (case aO => exact (zo HO_395000.out)); (case aS => exact (below_size (zw HB))); (case aL => have := LMc35.out; omega); intro v414 w38 ho hb hg hat; rw [← Ny413.out] at ho; replace HO_24 := Aside0.mk (Kd.R_over' (zo HO_24.out) (Kd.R_typed (zo HO_395000.out)) (by decide) hg); replace BK394 := Aside0.mk (blk_grown (g := gb394) (o := .cells #[u395000] 24 (0, 0)) (zk BK394) hg (Kd.R_ne HO_395000.out BK394.out (by decide))); replace HB := Aside0.mk (hb); have HO415 := Aside0.mk (ho); clear HO_395000; clear ho hb hg hat; obtain ⟨Ao39, co39, eo39⟩ := Kd.R_slice HO415.out; subst eo39; have hcz40_0 : w38.cell? ⟨gb394, 0, none⟩ = some (u395000) := (blk_cell BK394.out 0).trans rfl; have hfz40_0 := blk_frozen BK394.out 0))
          go_roundg k1
          case measure => have := HK1.out; omega
          case rel => exact ⟨(wrap64 (x26_1 + 1)), (y413), (.slice Ao39 y413.length co39), zf, H', ⟨by have := HK1.out; omega⟩, ⟨zo (Kd.R_mono (Kd.R_far (p := ⟨gb394, 0, none⟩) (Kd.R_types HO_24.out BK394.out (by decide)) (fun _ hk => hk.2) (.slice Ao39 y413.length co39)) (fun _ hk => trivial))⟩, ⟨zo (Kd.R_mono (Kd.R_far (p := ⟨gb394, 0, none⟩) (Kd.R_types HO415.out BK394.out (by decide)) (fun _ hk => hk.2) (.slice Ao39 y413.length co39)) (fun _ hk => trivial))⟩, ⟨by (with_reducible repeat (first | refine blk_drewN ?_ _ | refine blk_drew ?_ | refine blk_alloc ?_ _)); refine blk_put (cs := #[u395000]) ?_ 0 _ rfl; (with_reducible repeat (first | refine blk_drewN ?_ _ | refine blk_drew ?_ | refine blk_alloc ?_ _)); exact BK394.out⟩, ⟨zw HB⟩⟩
         ·rw [if_neg c35] at H
          exact absurd H (by simp)
        ·replace c32 := Bool.eq_false_iff.mpr c32
         subst c32
         rw [if_neg (show ¬ (false = true) by decide)] at H
         simp only [Option.some.injEq, Prod.mk.injEq] at H
         obtain ⟨rfl, rfl⟩ := H
         have p402 : 0 ≤ (x26_1 : Int) := of_decide_eq_true za
         have q402 : x26_1 < (t395.length : Int) := of_decide_eq_true za
         obtain ⟨ad402, e402, hx402_0⟩ := Kd.at_string (Kd.R_reads' HO_24.out).2.2 x26_1 p402 q402
         cases e402
         replace p402 := eq_true p402
         replace q402 := eq_true q402
         go_wp2_with (first | ((with_reducible refine gate_callee (f := 49) rfl ?_); refine zG (some 32) Tryd.func49 #[.string (rdOf ByteArray.empty t395 x26_1), .string (⟨#[58]⟩ : ByteArray)] ?_; (with_reducible refine (strings_Cut.calls (rdOf ByteArray.empty t395 x26_1) (⟨#[58]⟩ : ByteArray) t403 t404 false _ ?sidegl A16.out).mono ?_); (case sidegl => exact HGL.out.of (zw HB)); rintro e w41 ⟨rfl, hb⟩; refine ⟨_, rfl, ?_⟩; replace HO_24 := Aside0.mk (Kd.R_below (zo HO_24.out) hb); replace HO_395000 := Aside0.mk (Kd.R_below (zo HO_395000.out) hb); replace BK394 := zb BK394 hb; replace HB := zs HB hb; clear hb) | ((with_reducible refine gate_callee (f := 50) rfl ?_); refine zG (some 39) Tryd.func50 #[.string t403, .int .i64 a1] ?_; (with_reducible refine (impl_readUid.calls k1 t403 a1 t406 false _ A17.out).mono ?_); rintro e w' ⟨rfl, ⟨nd, rfl⟩⟩; refine ⟨_, rfl, ?_⟩))
         go_ret2
         exact ⟨_, ze, by first | exact Kd.R_nil _ _ _ _ _ | exact Kd.N_nil _ _ _ _ _ | exact Kd.V_nil _ _ _ _ _ | exact Kd.Q_nil _ _ _ _ _ | exact Kd.S_nil _ _ _ _ _, zw HB⟩
      ·rw [if_neg c15] at H
       exact absurd H (by simp)
     ·rw [if_neg c14] at H
      exact absurd H (by simp)
    ·rw [if_neg c13] at H
     have c13b0 : decide (x26_1 < (t395.length : Int)) = false := decide_eq_false c13
     clear c13
     replace H := Option.bind_eq_some_iff.mp H
     obtain ⟨⟨t398, t399⟩, A420, H⟩ := H
     replace H : (if t399 = true then (some (t398, true)) else (some (([] : List (S40)), false))) = some (r1, r2) := H
     have A42 := Aside0.mk A420
     clear A420
     by_cases c43 : t399 = true
     ·subst c43
      rw [if_pos rfl] at H
      simp only [Option.some.injEq, Prod.mk.injEq] at H
      obtain ⟨rfl, rfl⟩ := H
      have hcz44_0 : wr.cell? ⟨gb394, 0, none⟩ = some (u395000) := (blk_cell BK394.out 0).trans rfl
      have hfz44_0 := blk_frozen BK394.out 0
      obtain ⟨Ao45, co45, eo45⟩ := Kd.R_slice HO_395000.out
      subst eo45
      go_wp2_with (first | (go_at_call 39; (refine (impl_ReadSet_1.calls gb394 k1 _ _ x395000_1 t398 true _ (Kd.R_reads' HO_395000.out).2.2 (Kd.R_reads' HO_395000.out).2.1 ((blk_cell BK394.out 0).trans rfl) A42.out).mono ?_); rintro e w46 ⟨v400, rfl, ho0, hb⟩; replace HO_24 := Aside0.mk (Kd.R_below (zo HO_24.out) hb); have HO401 := Aside0.mk (Kd.R_lower (Kd.R_new' ho0 (Kd.R_lt (zo HO_395000.out))) (below_size (zw HB))); replace HO_395000 := Aside0.mk (Kd.R_elder' (zo HO_395000.out) (Kd.R_base ho0) hb); replace BK394 := zb BK394 hb; replace HB := zs HB hb; clear ho0 hb))
      go_ret2
      exact ⟨_, ze, zo (Kd.R_mono HO401.out (fun _ hk => trivial)), zw HB⟩
     ·replace c43 := Bool.eq_false_iff.mpr c43
      subst c43
      rw [if_neg (show ¬ (false = true) by decide)] at H
      simp only [Option.some.injEq, Prod.mk.injEq] at H
      obtain ⟨rfl, rfl⟩ := H
      have hcz47_0 : wr.cell? ⟨gb394, 0, none⟩ = some (u395000) := (blk_cell BK394.out 0).trans rfl
      have hfz47_0 := blk_frozen BK394.out 0
      obtain ⟨Ao48, co48, eo48⟩ := Kd.R_slice HO_395000.out
      subst eo48
      go_wp2_with (first | (go_at_call 39; (refine (impl_ReadSet_1.calls gb394 k1 _ _ x395000_1 t398 false _ (Kd.R_reads' HO_395000.out).2.2 (Kd.R_reads' HO_395000.out).2.1 ((blk_cell BK394.out 0).trans rfl) A42.out).mono ?_); rintro e w49 ⟨v400, rfl, ho0, hb⟩; replace HO_24 := Aside0.mk (Kd.R_below (zo HO_24.out) hb); have HO401 := Aside0.mk (Kd.R_lower (Kd.R_new' ho0 (Kd.R_lt (zo HO_395000.out))) (below_size (zw HB))); replace HO_395000 := Aside0.mk (Kd.R_elder' (zo HO_395000.out) (Kd.R_base ho0) hb); replace BK394 := zb BK394 hb; replace HB := zs HB hb; clear ho0 hb))
      go_ret2
      exact ⟨_, ze, by first | exact Kd.R_nil _ _ _ _ _ | exact Kd.N_nil _ _ _ _ _ | exact Kd.V_nil _ _ _ _ _ | exact Kd.Q_nil _ _ _ _ _ | exact Kd.S_nil _ _ _ _ _, zw HB⟩
 ·replace c4 := Bool.eq_false_iff.mpr c4
  subst c4
  rw [if_neg (show ¬ (false = true) by decide)] at H
  simp only [Option.some.injEq, Prod.mk.injEq] at H
  obtain ⟨rfl, rfl⟩ := H
  go_enter Tryd.func17, Tryd.ntmps17
  go_wp2_with (first | ((with_reducible refine gate_callee (f := 36) rfl ?_); refine zG (some 20) Tryd.func36 #[.int .i64 a1] ?_; (with_reducible refine (impl_isUid.calls a1 false _ A3.out).mono ?_); rintro e w' ⟨rfl, ⟨nd, rfl⟩⟩; refine ⟨_, rfl, ?_⟩))
  go_ret2
  exact ⟨_, ze, by first | exact Kd.R_nil _ _ _ _ _ | exact Kd.N_nil _ _ _ _ _ | exact Kd.V_nil _ _ _ _ _ | exact Kd.Q_nil _ _ _ _ _ | exact Kd.S_nil _ _ _ _ _, zw HB⟩

/-! ### spec_l05Num: function 65 -/
def spec_l05Num.l0 : Nat → ByteArray → Int → Int → Option (Int × Bool)
 | 0, _, _, _ => none
 | k + 1, x0, x6, x7 => if x7 < (x0.size : Int) then (if 0 ≤ x7 then (if (bt x0 x7) < 48 then (some (0, false)) else (if (bt x0 x7) > 57 then (some (0, false)) else (spec_l05Num.l0 k x0 (wrap64 ((wrap64 ((wrap64 (10 * x6)) + (wrap64 (bt x0 x7)))) - 48)) (wrap64 (x7 + 1))))) else (none)) else (some (x6, decide (x6 ≥ 1)))
def spec_l05Num.f (k : Nat) (a0 : ByteArray) (a1 : Int) : Option (Int × Bool) := if a0.toList = ([42] : List UInt8) then (some (a1, true)) else ((spec_l01In.f (a0.size : Int) 1 4).bind fun t416 => (if t416 = true then (spec_l05Num.l0 k a0 0 0) else (some (0, false))))
theorem spec_l05Num.mono_l : ∀ k, (∀ y0 y1 y2, LeO (spec_l05Num.l0 k y0 y1 y2) (spec_l05Num.l0 (k + 1) y0 y1 y2))
 | 0 => fun _ _ _ r h => by simp [spec_l05Num.l0] at h
 | k + 1 => by
  have ih0 := spec_l05Num.mono_l k
  ·intro y0 y1 y2
   unfold spec_l05Num.l0
   repeat' first
   | (with_reducible exact ih0 _ _ _)
   | (with_reducible exact LeO.refl _)
   | (with_reducible exact LeO.none _)
   | (with_reducible refine LeO.ite ?_ ?_)
   | (with_reducible refine LeO.bind ?_ (fun _ => ?_))
   | exact ih0 _ _ _
   | exact LeO.none _
   | refine LeO.ite ?_ ?_
   | refine LeO.bind ?_ (fun _ => ?_)
theorem spec_l05Num.mono : ∀ a0 a1 k, LeO (spec_l05Num.f k a0 a1) (spec_l05Num.f (k + 1) a0 a1) := by
 intro a0 a1 k
 have ih0 := spec_l05Num.mono_l k
 unfold spec_l05Num.f
 repeat' first
   | (with_reducible exact ih0 _ _ _)
   | (with_reducible exact LeO.refl _)
   | (with_reducible exact LeO.none _)
   | (with_reducible refine LeO.ite ?_ ?_)
   | (with_reducible refine LeO.bind ?_ (fun _ => ?_))
   | exact ih0 _ _ _
   | exact LeO.none _
   | refine LeO.ite ?_ ?_
   | refine LeO.bind ?_ (fun _ => ?_)
set_option maxHeartbeats 8000000 in
set_option maxRecDepth 100000 in
theorem spec_l05Num.calls (k : Nat) (a0 : ByteArray) (a1 : Int) (r1 : Int) (r2 : Bool) (w : World) (h : spec_l05Num.f k a0 a1 = some (r1, r2)) :
  Calls Tryd.prog 65 #[.string a0, .int .i64 a1] w fun e w' => e = .returned (.tuple #[.int .i64 r1, .bool r2]) ∧ Drawn0 w w' := by
 have H : (if a0.toList = ([42] : List UInt8) then (some (a1, true)) else ((spec_l01In.f (a0.size : Int) 1 4).bind fun t416 => (if t416 = true then (spec_l05Num.l0 k a0 0 0) else (some (0, false))))) = some (r1, r2) := h
 clear h
 by_cases c3 : a0.toList = ([42] : List UInt8)
 ·rw [if_pos c3] at H
  have c3b0 : (a0.toList == ([42] : List UInt8)) = true := beq_iff_eq.mpr c3
  have c3b1 : (a0.toList != ([42] : List UInt8)) = false := bne_eq_false_iff_eq.mpr c3
  clear c3
  simp only [Option.some.injEq, Prod.mk.injEq] at H
  obtain ⟨rfl, rfl⟩ := H
  go_enter Tryd.func65, Tryd.ntmps65
  go_wp2
  go_ret2
  exact ⟨by first | rfl | (simp; done) | (simp [*]; done), by repeat (first | exact Drawn0.refl _ | apply Drawn0.step)⟩
 ·rw [if_neg c3] at H
  have c3b0 : (a0.toList == ([42] : List UInt8)) = false := beq_eq_false_iff_ne.mpr c3
  have c3b1 : (a0.toList != ([42] : List UInt8)) = true := bne_iff_ne.mpr c3
  replace H := Option.bind_eq_some_iff.mp H
  obtain ⟨t416, A40, H⟩ := H
  have A4 := Aside0.mk A40
  clear A40
  by_cases c5 : t416 = true
  ·subst c5
   rw [if_pos rfl] at H
   have H' := Aside0.mk H
   clear H
   go_enter Tryd.func65, Tryd.ntmps65
   go_wp2_with (first | ((with_reducible refine gate_callee (f := 52) rfl ?_); refine zG (some 13) Tryd.func52 #[.int .i64 (a0.size : Int), .int .i64 1, .int .i64 4] ?_; (with_reducible refine (spec_l01In.calls (a0.size : Int) 1 4 true _ A4.out).mono ?_); rintro e w' ⟨rfl, ⟨nd, rfl⟩⟩; refine ⟨_, rfl, ?_⟩))
   go_loopg [6, 7] k (fun kq v6 v7 w' => ∃ (x6_1 : Int) (x7_1 : Int), v6 = .int .i64 x6_1 ∧ v7 = .int .i64 x7_1 ∧ Aside0 (spec_l05Num.l0 kq a0 x6_1 x7_1 = some (r1, r2)) ∧ Aside0 (kq ≤ k) ∧ Drawn0 w w')
   case atStart => exact ⟨(0), (0), zf, zf, H', ⟨Nat.le_refl _⟩, by repeat (first | exact Drawn0.refl _ | apply Drawn0.step)⟩
   case round =>
    clear H'
    try clear p2
    try clear c3
    try clear c3b0
    try clear c3b1
    try clear c5
    obtain ⟨x6_1, x7_1, rfl, rfl, HA, HK1, ⟨m1, rfl⟩⟩ := hrel
    cases gk with
    | zero => exact absurd HA.out (by simp [spec_l05Num.l0])
    | succ k1 =>
     have H := HA.out
     clear HA
     simp only [spec_l05Num.l0] at H
     by_cases c6 : x7_1 < (a0.size : Int)
     ·rw [if_pos c6] at H
      have c6b0 : decide (x7_1 < (a0.size : Int)) = true := decide_eq_true c6
      clear c6
      by_cases c7 : 0 ≤ x7_1
      ·rw [if_pos c7] at H
       have c7b0 : decide (0 ≤ x7_1) = true := decide_eq_true c7
       clear c7
       by_cases c9 : (bt a0 x7_1) < 48
       ·rw [if_pos c9] at H
        have c9b0 : decide ((bt a0 x7_1) < 48) = true := decide_eq_true c9
        clear c9
        simp only [Option.some.injEq, Prod.mk.injEq] at H
        obtain ⟨rfl, rfl⟩ := H
        have p8 : 0 ≤ (x7_1 : Int) := of_decide_eq_true za
        have q8 : x7_1 < (a0.size : Int) := of_decide_eq_true za
        have hx8 := bt_at a0 x7_1
        replace p8 := eq_true p8
        replace q8 := eq_true q8
        go_wp2
        go_ret2
        exact ⟨by first | rfl | (simp; done) | (simp [*]; done), by repeat (first | exact Drawn0.refl _ | apply Drawn0.step)⟩
       ·rw [if_neg c9] at H
        have c9b0 : decide ((bt a0 x7_1) < 48) = false := decide_eq_false c9
        clear c9
        by_cases c11 : (bt a0 x7_1) > 57
        ·rw [if_pos c11] at H
         have c11b0 : decide (57 < (bt a0 x7_1)) = true := decide_eq_true c11
         clear c11
         simp only [Option.some.injEq, Prod.mk.injEq] at H
         obtain ⟨rfl, rfl⟩ := H
         have p8 : 0 ≤ (x7_1 : Int) := of_decide_eq_true za
         have q8 : x7_1 < (a0.size : Int) := of_decide_eq_true za
         have hx8 := bt_at a0 x7_1
         replace p8 := eq_true p8
         replace q8 := eq_true q8
         have p10 : 0 ≤ (x7_1 : Int) := of_decide_eq_true za
         have q10 : x7_1 < (a0.size : Int) := of_decide_eq_true za
         have hx10 := bt_at a0 x7_1
         replace p10 := eq_true p10
         replace q10 := eq_true q10
         go_wp2
         go_ret2
         exact ⟨by first | rfl | (simp; done) | (simp [*]; done), by repeat (first | exact Drawn0.refl _ | apply Drawn0.step)⟩
        ·rw [if_neg c11] at H
         have c11b0 : decide (57 < (bt a0 x7_1)) = false := decide_eq_false c11
         clear c11
         have H' := Aside0.mk H
         clear H
         have p8 : 0 ≤ (x7_1 : Int) := of_decide_eq_true za
         have q8 : x7_1 < (a0.size : Int) := of_decide_eq_true za
         have hx8 := bt_at a0 x7_1
         replace p8 := eq_true p8
         replace q8 := eq_true q8
         have p10 : 0 ≤ (x7_1 : Int) := of_decide_eq_true za
         have q10 : x7_1 < (a0.size : Int) := of_decide_eq_true za
         have hx10 := bt_at a0 x7_1
         replace p10 := eq_true p10
         replace q10 := eq_true q10
         have p12 : 0 ≤ (x7_1 : Int) := of_decide_eq_true za
         have q12 : x7_1 < (a0.size : Int) := of_decide_eq_true za
         have hx12 := bt_at a0 x7_1
         replace p12 := eq_true p12
         replace q12 := eq_true q12
         go_wp2
         go_roundg k1
         case measure => have := HK1.out; omega
         case rel => exact ⟨(wrap64 ((wrap64 ((wrap64 (10 * x6_1)) + (wrap64 (bt a0 x7_1)))) - 48)), (wrap64 (x7_1 + 1)), zf, zf, H', ⟨by have := HK1.out; omega⟩, by repeat (first | exact Drawn0.refl _ | apply Drawn0.step)⟩
      ·rw [if_neg c7] at H
       exact absurd H (by simp)
     ·rw [if_neg c6] at H
      have c6b0 : decide (x7_1 < (a0.size : Int)) = false := decide_eq_false c6
      clear c6
      simp only [Option.some.injEq, Prod.mk.injEq] at H
      obtain ⟨rfl, rfl⟩ := H
      go_wp2
      go_ret2
      exact ⟨by first | rfl | (simp; done) | (simp [*]; done), by repeat (first | exact Drawn0.refl _ | apply Drawn0.step)⟩
  ·replace c5 := Bool.eq_false_iff.mpr c5
   subst c5
   rw [if_neg (show ¬ (false = true) by decide)] at H
   simp only [Option.some.injEq, Prod.mk.injEq] at H
   obtain ⟨rfl, rfl⟩ := H
   go_enter Tryd.func65, Tryd.ntmps65
   go_wp2_with (first | ((with_reducible refine gate_callee (f := 52) rfl ?_); refine zG (some 13) Tryd.func52 #[.int .i64 (a0.size : Int), .int .i64 1, .int .i64 4] ?_; (with_reducible refine (spec_l01In.calls (a0.size : Int) 1 4 false _ A4.out).mono ?_); rintro e w' ⟨rfl, ⟨nd, rfl⟩⟩; refine ⟨_, rfl, ?_⟩))
   go_ret2
   exact ⟨by first | rfl | (simp; done) | (simp [*]; done), by repeat (first | exact Drawn0.refl _ | apply Drawn0.step)⟩

/-! ### spec_l05Part: function 53 -/
def spec_l05Part.l0 : Nat → ByteArray → Int → Int → Option (Int × Int × Bool)
 | 0, _, _, _ => none
 | k + 1, x0, x1, x7 => if x7 < (x0.size : Int) then (if 0 ≤ x7 then (if (bt x0 x7) = 58 then (if x7 ≤ (x0.size : Int) then ((spec_l05Num.f k (x0.extract 0 (x7 : Int).toNat) x1).bind fun bt419 => (if 0 ≤ (wrap64 (x7 + 1)) then (if (wrap64 (x7 + 1)) ≤ (x0.size : Int) then ((spec_l05Num.f k (x0.extract ((wrap64 (x7 + 1)) : Int).toNat x0.size) x1).bind fun bt421 => (if bt419.1 > bt421.1 then (if bt419.2 = true then (some (bt421.1, bt419.1, bt421.2)) else (some (bt421.1, bt419.1, false))) else (if bt419.2 = true then (some (bt419.1, bt421.1, bt421.2)) else (some (bt419.1, bt421.1, false))))) else (none)) else (none))) else (none)) else (spec_l05Part.l0 k x0 x1 (wrap64 (x7 + 1)))) else (none)) else ((spec_l05Num.f k x0 x1).bind fun bt417 => (some (bt417.1, bt417.1, bt417.2)))
def spec_l05Part.f (k : Nat) (a0 : ByteArray) (a1 : Int) : Option (Int × Int × Bool) := spec_l05Part.l0 k a0 a1 0
theorem spec_l05Part.mono_l : ∀ k, (∀ y0 y1 y2, LeO (spec_l05Part.l0 k y0 y1 y2) (spec_l05Part.l0 (k + 1) y0 y1 y2))
 | 0 => fun _ _ _ r h => by simp [spec_l05Part.l0] at h
 | k + 1 => by
  have ih0 := spec_l05Part.mono_l k
  ·intro y0 y1 y2
   unfold spec_l05Part.l0
   repeat' first
   | (with_reducible exact ih0 _ _ _)
   | (with_reducible exact spec_l05Num.mono _ _ _)
   | (with_reducible exact LeO.refl _)
   | (with_reducible exact LeO.none _)
   | (with_reducible refine LeO.ite ?_ ?_)
   | (with_reducible refine LeO.bind ?_ (fun _ => ?_))
   | exact ih0 _ _ _
   | exact spec_l05Num.mono _ _ _
   | exact LeO.none _
   | refine LeO.ite ?_ ?_
   | refine LeO.bind ?_ (fun _ => ?_)
theorem spec_l05Part.mono : ∀ a0 a1 k, LeO (spec_l05Part.f k a0 a1) (spec_l05Part.f (k + 1) a0 a1) := by
 intro a0 a1 k
 have ih0 := spec_l05Part.mono_l k
 unfold spec_l05Part.f
 repeat' first
   | (with_reducible exact ih0 _ _ _)
   | (with_reducible exact spec_l05Num.mono _ _ _)
   | (with_reducible exact LeO.refl _)
   | (with_reducible exact LeO.none _)
   | (with_reducible refine LeO.ite ?_ ?_)
   | (with_reducible refine LeO.bind ?_ (fun _ => ?_))
   | exact ih0 _ _ _
   | exact spec_l05Num.mono _ _ _
   | exact LeO.none _
   | refine LeO.ite ?_ ?_
   | refine LeO.bind ?_ (fun _ => ?_)
set_option maxHeartbeats 8000000 in
set_option maxRecDepth 100000 in
theorem spec_l05Part.calls (k : Nat) (a0 : ByteArray) (a1 : Int) (r1 : Int) (r2 : Int) (r3 : Bool) (w : World) (h : spec_l05Part.f k a0 a1 = some (r1, r2, r3)) :
  Calls Tryd.prog 53 #[.string a0, .int .i64 a1] w fun e w' => e = .returned (.tuple #[.int .i64 r1, .int .i64 r2, .bool r3]) ∧ Drawn0 w w' := by
 have H : (spec_l05Part.l0 k a0 a1 0) = some (r1, r2, r3) := h
 clear h
 have H' := Aside0.mk H
 clear H
 go_enter Tryd.func53, Tryd.ntmps53
 go_wp2
 go_loopg [7] k (fun kq v7 w' => ∃ (x7_1 : Int), v7 = .int .i64 x7_1 ∧ Aside0 (spec_l05Part.l0 kq a0 a1 x7_1 = some (r1, r2, r3)) ∧ Aside0 (kq ≤ k) ∧ Drawn0 w w')
 case atStart => exact ⟨(0), zf, H', ⟨Nat.le_refl _⟩, by repeat (first | exact Drawn0.refl _ | apply Drawn0.step)⟩
 case round =>
  clear H'
  try clear p2
  obtain ⟨x7_1, rfl, HA, HK1, ⟨m1, rfl⟩⟩ := hrel
  cases gk with
  | zero => exact absurd HA.out (by simp [spec_l05Part.l0])
  | succ k1 =>
   have H := HA.out
   clear HA
   simp only [spec_l05Part.l0] at H
   by_cases c3 : x7_1 < (a0.size : Int)
   ·rw [if_pos c3] at H
    have c3b0 : decide (x7_1 < (a0.size : Int)) = true := decide_eq_true c3
    clear c3
    by_cases c4 : 0 ≤ x7_1
    ·rw [if_pos c4] at H
     have c4b0 : decide (0 ≤ x7_1) = true := decide_eq_true c4
     clear c4
     by_cases c6 : (bt a0 x7_1) = 58
     ·rw [if_pos c6] at H
      have c6b0 : ((bt a0 x7_1) == 58) = true := beq_iff_eq.mpr c6
      have c6b1 : ((bt a0 x7_1) != 58) = false := bne_eq_false_iff_eq.mpr c6
      clear c6
      have c7b0 := eq_true (of_decide_eq_true za : 0 ≤ x7_1)
      by_cases c8 : x7_1 ≤ (a0.size : Int)
      ·rw [if_pos c8] at H
       have c8b0 := eq_true c8
       have c8b1 : decide (x7_1 ≤ (a0.size : Int)) = true := decide_eq_true c8
       clear c8
       replace H := Option.bind_eq_some_iff.mp H
       obtain ⟨⟨t419, t420⟩, A90, H⟩ := H
       replace H : (if 0 ≤ (wrap64 (x7_1 + 1)) then (if (wrap64 (x7_1 + 1)) ≤ (a0.size : Int) then ((spec_l05Num.f k1 (a0.extract ((wrap64 (x7_1 + 1)) : Int).toNat a0.size) a1).bind fun bt421 => (if t419 > bt421.1 then (if t420 = true then (some (bt421.1, t419, bt421.2)) else (some (bt421.1, t419, false))) else (if t420 = true then (some (t419, bt421.1, bt421.2)) else (some (t419, bt421.1, false))))) else (none)) else (none)) = some (r1, r2, r3) := H
       have A9 := Aside0.mk A90
       clear A90
       obtain ⟨ji10, hji10⟩ : ∃ j_ : Int, (wrap64 (x7_1 + 1)) = j_ := ⟨_, rfl⟩
       replace H : (if 0 ≤ (ji10) then (if (ji10) ≤ (a0.size : Int) then ((spec_l05Num.f k1 (a0.extract ((ji10) : Int).toNat a0.size) a1).bind fun bt421 => (if t419 > bt421.1 then (if t420 = true then (some (bt421.1, t419, bt421.2)) else (some (bt421.1, t419, false))) else (if t420 = true then (some (t419, bt421.1, bt421.2)) else (some (t419, bt421.1, false))))) else (none)) else (none)) = some (r1, r2, r3) := by first | (rw [hji10] at H; exact H) | (simp only [hji10] at H ⊢; exact H)
       (try rw [hji10] at A9)
       have hji10w : (IntKind.i64.wrap (x7_1 + 1)) = ji10 := (i64_w _).trans hji10
       by_cases c11 : 0 ≤ (ji10)
       ·rw [if_pos c11] at H
        have c11b0 := eq_true c11
        have c11b1 : decide (0 ≤ (ji10)) = true := decide_eq_true c11
        clear c11
        by_cases c12 : (ji10) ≤ (a0.size : Int)
        ·rw [if_pos c12] at H
         have c12b0 := eq_true c12
         have c12b1 : decide ((ji10) ≤ (a0.size : Int)) = true := decide_eq_true c12
         clear c12
         replace H := Option.bind_eq_some_iff.mp H
         obtain ⟨⟨t421, t422⟩, A130, H⟩ := H
         replace H : (if t419 > t421 then (if t420 = true then (some (t421, t419, t422)) else (some (t421, t419, false))) else (if t420 = true then (some (t419, t421, t422)) else (some (t419, t421, false)))) = some (r1, r2, r3) := H
         have A13 := Aside0.mk A130
         clear A130
         by_cases c14 : t419 > t421
         ·rw [if_pos c14] at H
          have c14b0 : decide (t421 < t419) = true := decide_eq_true c14
          clear c14
          by_cases c15 : t420 = true
          ·subst c15
           rw [if_pos rfl] at H
           simp only [Option.some.injEq, Prod.mk.injEq] at H
           obtain ⟨rfl, rfl, rfl⟩ := H
           have p5 : 0 ≤ (x7_1 : Int) := of_decide_eq_true za
           have q5 : x7_1 < (a0.size : Int) := of_decide_eq_true za
           have hx5 := bt_at a0 x7_1
           replace p5 := eq_true p5
           replace q5 := eq_true q5
           go_wp2_with (first | ((with_reducible refine gate_callee (f := 65) rfl ?_); refine zG (some 29) Tryd.func65 #[.string (a0.extract 0 (x7_1 : Int).toNat), .int .i64 a1] ?_; (with_reducible refine (spec_l05Num.calls k1 (a0.extract 0 (x7_1 : Int).toNat) a1 t419 true _ A9.out).mono ?_); rintro e w' ⟨rfl, ⟨nd, rfl⟩⟩; refine ⟨_, rfl, ?_⟩) | ((with_reducible refine gate_callee (f := 65) rfl ?_); refine goesL_ (some 38) rfl rfl Tryd.func65 (by kernel_rfl) rfl #[.string (a0.extract ((ji10) : Int).toNat a0.size), .int .i64 a1] rfl (by (try simp only [List.map_toArray, List.map_cons, List.map_nil]); first | done | (simp only [hji10]; rfl) | rfl | (simp only [List.length_drop, List.length_take]; rfl)) ?_; (with_reducible refine (spec_l05Num.calls k1 (a0.extract ((ji10) : Int).toNat a0.size) a1 t421 t422 _ A13.out).mono ?_); rintro e w' ⟨rfl, ⟨nd, rfl⟩⟩; refine ⟨_, rfl, ?_⟩))
           go_ret3
           exact ⟨by first | rfl | (simp; done) | (simp only [← hji10] <;> (first | rfl | simp)) | (simp [*]; done), by repeat (first | exact Drawn0.refl _ | apply Drawn0.step)⟩
          ·replace c15 := Bool.eq_false_iff.mpr c15
           subst c15
           rw [if_neg (show ¬ (false = true) by decide)] at H
           simp only [Option.some.injEq, Prod.mk.injEq] at H
           obtain ⟨rfl, rfl, rfl⟩ := H
           have p5 : 0 ≤ (x7_1 : Int) := of_decide_eq_true za
           have q5 : x7_1 < (a0.size : Int) := of_decide_eq_true za
           have hx5 := bt_at a0 x7_1
           replace p5 := eq_true p5
           replace q5 := eq_true q5
           go_wp2_with (first | ((with_reducible refine gate_callee (f := 65) rfl ?_); refine zG (some 29) Tryd.func65 #[.string (a0.extract 0 (x7_1 : Int).toNat), .int .i64 a1] ?_; (with_reducible refine (spec_l05Num.calls k1 (a0.extract 0 (x7_1 : Int).toNat) a1 t419 false _ A9.out).mono ?_); rintro e w' ⟨rfl, ⟨nd, rfl⟩⟩; refine ⟨_, rfl, ?_⟩) | ((with_reducible refine gate_callee (f := 65) rfl ?_); refine goesL_ (some 38) rfl rfl Tryd.func65 (by kernel_rfl) rfl #[.string (a0.extract ((ji10) : Int).toNat a0.size), .int .i64 a1] rfl (by (try simp only [List.map_toArray, List.map_cons, List.map_nil]); first | done | (simp only [hji10]; rfl) | rfl | (simp only [List.length_drop, List.length_take]; rfl)) ?_; (with_reducible refine (spec_l05Num.calls k1 (a0.extract ((ji10) : Int).toNat a0.size) a1 t421 t422 _ A13.out).mono ?_); rintro e w' ⟨rfl, ⟨nd, rfl⟩⟩; refine ⟨_, rfl, ?_⟩))
           go_ret3
           exact ⟨by first | rfl | (simp; done) | (simp only [← hji10] <;> (first | rfl | simp)) | (simp [*]; done), by repeat (first | exact Drawn0.refl _ | apply Drawn0.step)⟩
         ·rw [if_neg c14] at H
          have c14b0 : decide (t421 < t419) = false := decide_eq_false c14
          clear c14
          by_cases c16 : t420 = true
          ·subst c16
           rw [if_pos rfl] at H
           simp only [Option.some.injEq, Prod.mk.injEq] at H
           obtain ⟨rfl, rfl, rfl⟩ := H
           have p5 : 0 ≤ (x7_1 : Int) := of_decide_eq_true za
           have q5 : x7_1 < (a0.size : Int) := of_decide_eq_true za
           have hx5 := bt_at a0 x7_1
           replace p5 := eq_true p5
           replace q5 := eq_true q5
           go_wp2_with (first | ((with_reducible refine gate_callee (f := 65) rfl ?_); refine zG (some 29) Tryd.func65 #[.string (a0.extract 0 (x7_1 : Int).toNat), .int .i64 a1] ?_; (with_reducible refine (spec_l05Num.calls k1 (a0.extract 0 (x7_1 : Int).toNat) a1 t419 true _ A9.out).mono ?_); rintro e w' ⟨rfl, ⟨nd, rfl⟩⟩; refine ⟨_, rfl, ?_⟩) | ((with_reducible refine gate_callee (f := 65) rfl ?_); refine goesL_ (some 38) rfl rfl Tryd.func65 (by kernel_rfl) rfl #[.string (a0.extract ((ji10) : Int).toNat a0.size), .int .i64 a1] rfl (by (try simp only [List.map_toArray, List.map_cons, List.map_nil]); first | done | (simp only [hji10]; rfl) | rfl | (simp only [List.length_drop, List.length_take]; rfl)) ?_; (with_reducible refine (spec_l05Num.calls k1 (a0.extract ((ji10) : Int).toNat a0.size) a1 t421 t422 _ A13.out).mono ?_); rintro e w' ⟨rfl, ⟨nd, rfl⟩⟩; refine ⟨_, rfl, ?_⟩))
           go_ret3
           exact ⟨by first | rfl | (simp; done) | (simp only [← hji10] <;> (first | rfl | simp)) | (simp [*]; done), by repeat (first | exact Drawn0.refl _ | apply Drawn0.step)⟩
          ·replace c16 := Bool.eq_false_iff.mpr c16
           subst c16
           rw [if_neg (show ¬ (false = true) by decide)] at H
           simp only [Option.some.injEq, Prod.mk.injEq] at H
           obtain ⟨rfl, rfl, rfl⟩ := H
           have p5 : 0 ≤ (x7_1 : Int) := of_decide_eq_true za
           have q5 : x7_1 < (a0.size : Int) := of_decide_eq_true za
           have hx5 := bt_at a0 x7_1
           replace p5 := eq_true p5
           replace q5 := eq_true q5
           go_wp2_with (first | ((with_reducible refine gate_callee (f := 65) rfl ?_); refine zG (some 29) Tryd.func65 #[.string (a0.extract 0 (x7_1 : Int).toNat), .int .i64 a1] ?_; (with_reducible refine (spec_l05Num.calls k1 (a0.extract 0 (x7_1 : Int).toNat) a1 t419 false _ A9.out).mono ?_); rintro e w' ⟨rfl, ⟨nd, rfl⟩⟩; refine ⟨_, rfl, ?_⟩) | ((with_reducible refine gate_callee (f := 65) rfl ?_); refine goesL_ (some 38) rfl rfl Tryd.func65 (by kernel_rfl) rfl #[.string (a0.extract ((ji10) : Int).toNat a0.size), .int .i64 a1] rfl (by (try simp only [List.map_toArray, List.map_cons, List.map_nil]); first | done | (simp only [hji10]; rfl) | rfl | (simp only [List.length_drop, List.length_take]; rfl)) ?_; (with_reducible refine (spec_l05Num.calls k1 (a0.extract ((ji10) : Int).toNat a0.size) a1 t421 t422 _ A13.out).mono ?_); rintro e w' ⟨rfl, ⟨nd, rfl⟩⟩; refine ⟨_, rfl, ?_⟩))
           go_ret3
           exact ⟨by first | rfl | (simp; done) | (simp only [← hji10] <;> (first | rfl | simp)) | (simp [*]; done), by repeat (first | exact Drawn0.refl _ | apply Drawn0.step)⟩
        ·rw [if_neg c12] at H
         exact absurd H (by simp)
       ·rw [if_neg c11] at H
        exact absurd H (by simp)
      ·rw [if_neg c8] at H
       exact absurd H (by simp)
     ·rw [if_neg c6] at H
      have c6b0 : ((bt a0 x7_1) == 58) = false := beq_eq_false_iff_ne.mpr c6
      have c6b1 : ((bt a0 x7_1) != 58) = true := bne_iff_ne.mpr c6
      have H' := Aside0.mk H
      clear H
      have p5 : 0 ≤ (x7_1 : Int) := of_decide_eq_true za
      have q5 : x7_1 < (a0.size : Int) := of_decide_eq_true za
      have hx5 := bt_at a0 x7_1
      replace p5 := eq_true p5
      replace q5 := eq_true q5
      go_wp2
      go_roundg k1
      case measure => have := HK1.out; omega
      case rel => exact ⟨(wrap64 (x7_1 + 1)), zf, H', ⟨by have := HK1.out; omega⟩, by repeat (first | exact Drawn0.refl _ | apply Drawn0.step)⟩
    ·rw [if_neg c4] at H
     exact absurd H (by simp)
   ·rw [if_neg c3] at H
    have c3b0 : decide (x7_1 < (a0.size : Int)) = false := decide_eq_false c3
    clear c3
    replace H := Option.bind_eq_some_iff.mp H
    obtain ⟨⟨t417, t418⟩, A170, H⟩ := H
    replace H : (some (t417, t417, t418)) = some (r1, r2, r3) := H
    have A17 := Aside0.mk A170
    clear A170
    simp only [Option.some.injEq, Prod.mk.injEq] at H
    obtain ⟨rfl, rfl, rfl⟩ := H
    go_wp2_with (first | ((with_reducible refine gate_callee (f := 65) rfl ?_); refine zG (some 55) Tryd.func65 #[.string a0, .int .i64 a1] ?_; (with_reducible refine (spec_l05Num.calls k1 a0 a1 t417 t418 _ A17.out).mono ?_); rintro e w' ⟨rfl, ⟨nd, rfl⟩⟩; refine ⟨_, rfl, ?_⟩))
    go_ret3
    exact ⟨by first | rfl | (simp; done) | (simp [*]; done), by repeat (first | exact Drawn0.refl _ | apply Drawn0.step)⟩

end Go.Proofs.YthngecooaddddaaDoor.PFnSetsTold
