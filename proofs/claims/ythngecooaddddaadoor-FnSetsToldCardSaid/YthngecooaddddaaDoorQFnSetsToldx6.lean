import Derived.Shelf.Abstract
import Derived.Test.YthngecooaddddaaDoorQFnSetsToldx0
import Derived.Test.YthngecooaddddaaDoorQFnSetsToldx2
import Derived.Test.YthngecooaddddaaDoorQFnSetsToldx4
import Derived.Test.YthngecooaddddaaDoorQFnSetsToldx5
namespace Go.Proofs.YthngecooaddddaaDoor.PFnSetsTold
open Go.RowKit Go.Proofs.YthngecooaddddaaDoorW.PrintWords Go.Proofs.YthngecooaddddaaDoorW.PrintLast Go.Proofs.YthngecooaddddaaDoorW.PrintMore
attribute [local go_sem] max2_int min2_int max_two min_two max_three min_three max_four min_four   -- for this text's walks alone
set_option linter.unusedVariables false
set_option linter.unusedSimpArgs false

/-- a predicate on ints that is handed in: what it tells, the function's number, what it has captured -/
structure PV where
 p : Int → Bool
 g : Nat
 lb : Array Value
/-- from this world on, the function value tells that -/
structure PredOk (w : World) (a : PV) : Prop where
 eg : ∀ args w, (callFunc a.g args).run Tryd.prog w = .ok (.enter a.g args) w
 tells : ∀ (W : World) (x : Int), Below w.heap.size w W → Calls Tryd.prog a.g (#[.int .i64 x] ++ a.lb) W fun e w' => e = .returned (.bool (a.p x)) ∧ Below W.heap.size W w'
def PVcall.f (a : PV) (x : Int) : Option Bool := some (a.p x)
theorem PVcall.calls {w : World} {a0 : PV} (hp : PredOk w a0) (a : PV) (ha : a = a0) (x : Int) (r : Bool) (W : World) (h : PVcall.f a x = some r) (hb : Below w.heap.size w W) :
  Calls Tryd.prog a0.g (#[.int .i64 x] ++ a0.lb) W fun e w' => e = .returned (.bool r) ∧ Below W.heap.size W w' := by
 subst ha
 obtain rfl := Option.some.inj h
 exact hp.tells W x hb
/-! ### impl_setOf: function 39 -/
def impl_setOf.l0 : Nat → PV → List (S40) → Int → Option ((List (S40)) × Bool)
 | 0, _, _, _ => none
 | k + 1, x0, x4, x5 => if x5 ≤ 9999 then ((PVcall.f x0 x5).bind fun t287 => (if t287 = true then (if (wrap64 ((x4.length : Int) - 1)) ≥ 0 then (if 0 ≤ (wrap64 ((x4.length : Int) - 1)) then (if (wrap64 ((x4.length : Int) - 1)) < (x4.length : Int) then (if ((rd_T40 x4 (wrap64 ((x4.length : Int) - 1))).f1) = (wrap64 (x5 - 1)) then (impl_setOf.l0 k x0 (x4.set ((wrap64 ((x4.length : Int) - 1)) : Int).toNat (⟨(rd_T40 x4 (wrap64 ((x4.length : Int) - 1))).f0, x5⟩ : S40)) (wrap64 (x5 + 1))) else (if x4.length < 8796093022208 then (impl_setOf.l0 k x0 (x4 ++ [(⟨x5, x5⟩ : S40)]) (wrap64 (x5 + 1))) else (none))) else (none)) else (none)) else (if x4.length < 8796093022208 then (impl_setOf.l0 k x0 (x4 ++ [(⟨x5, x5⟩ : S40)]) (wrap64 (x5 + 1))) else (none))) else (impl_setOf.l0 k x0 x4 (wrap64 (x5 + 1))))) else (some (x4, decide ((x4.length : Int) ≤ 40)))
def impl_setOf.f (k : Nat) (a0 : PV) : Option ((List (S40)) × Bool) := impl_setOf.l0 k a0 (([] : List (S40))) 1
theorem impl_setOf.mono_l : ∀ k, (∀ y0 y1 y2, LeO (impl_setOf.l0 k y0 y1 y2) (impl_setOf.l0 (k + 1) y0 y1 y2))
 | 0 => fun _ _ _ r h => by simp [impl_setOf.l0] at h
 | k + 1 => by
  have ih0 := impl_setOf.mono_l k
  ·intro y0 y1 y2
   unfold impl_setOf.l0
   repeat' first
   | (with_reducible exact ih0 _ _ _)
   | (with_reducible exact LeO.refl _)
   | (with_reducible exact LeO.none _)
   | (with_reducible refine LeO.ite ?_ ?_)
   | (with_reducible refine LeO.bind ?_ (fun _ => ?_))
   | exact ih0 _ _ _
   | exact LeO.none _
   | refine LeO.ite ?_ ?_
   | refine LeO.bind ?_ (fun _ => ?_)
theorem impl_setOf.mono : ∀ a0 k, LeO (impl_setOf.f k a0) (impl_setOf.f (k + 1) a0) := by
 intro a0 k
 have ih0 := impl_setOf.mono_l k
 unfold impl_setOf.f
 repeat' first
   | (with_reducible exact ih0 _ _ _)
   | (with_reducible exact LeO.refl _)
   | (with_reducible exact LeO.none _)
   | (with_reducible refine LeO.ite ?_ ?_)
   | (with_reducible refine LeO.bind ?_ (fun _ => ?_))
   | exact ih0 _ _ _
   | exact LeO.none _
   | refine LeO.ite ?_ ?_
   | refine LeO.bind ?_ (fun _ => ?_)
set_option maxHeartbeats 8000000 in
set_option maxRecDepth 100000 in
theorem impl_setOf.calls (k : Nat) (a0 : PV) (r1 : List (S40)) (r2 : Bool) (w : World) (hpv : PredOk w a0) (h : impl_setOf.f k a0 = some (r1, r2)) :
  Calls Tryd.prog 39 #[.func (.func a0.g) #[] a0.lb] w fun e w' => ∃ v0_ : Value, e = .returned (.tuple #[v0_, .bool r2]) ∧ Kd.R k40 40 w' w.heap.size (fun _ => True) v0_ r1 ∧ Below w.heap.size w w' := by
 have hu40 := Tryd.underlying40
 have HB := Aside0.mk (Below.refl w.heap.size w)
 obtain ⟨g, hg⟩ : ∃ g : Nat, a0.g = g := ⟨_, rfl⟩
 obtain ⟨lb, hlb⟩ : ∃ lb : Array Value, a0.lb = lb := ⟨_, rfl⟩
 have eg : ∀ args w, (callFunc g args).run Tryd.prog w = .ok (.enter g args) w := by rw [← hg]; exact hpv.eg
 have HPV : Aside0 (∀ (x : Int) (r : Bool) (W : World), PVcall.f a0 x = some r → Below w.heap.size w W → Calls Tryd.prog g (#[.int .i64 x] ++ lb) W fun e w' => e = .returned (.bool r) ∧ Below W.heap.size W w') := ⟨fun x r W hf hb => by rw [← hg, ← hlb]; exact PVcall.calls hpv a0 rfl x r W hf hb⟩
 rw [hg, hlb]
 clear hpv hg hlb
 have H : (impl_setOf.l0 k a0 (([] : List (S40))) 1) = some (r1, r2) := h
 clear h
 obtain ⟨y284, hy284⟩ : ∃ y_ : List (S40), y_ = (([] : List (S40))) := ⟨_, rfl⟩
 replace H : (impl_setOf.l0 k a0 y284 1) = some (r1, r2) := by first | (rw [hy284]; with_reducible exact H) | (have H2_ := (Option.bind_some _ _).symm.trans H; rw [hy284]; with_reducible exact H2_) | (have H2_ := (Option.bind_some _ _).symm.trans H; with_reducible exact H2_) | with_reducible exact H | (rw [hy284]; exact H) | exact H
 have Ny284 := Aside0.mk hy284
 clear hy284
 have H' := Aside0.mk H
 clear H
 go_enter Tryd.func39, Tryd.ntmps39
 go_wp2_with (first | ((with_reducible refine gate_dst (N := 7) rfl ?_); refine Kd.R_lit k40 _ 40 ?hg (N := 7) ?hd (xs := ([] : List (S40))) (inner := []) (ok := fun _ => True) (okp := fun _ => True) ?hr ?hp (fun _ hk => hk) trivial (Below.refl _ _) (Nat.le_refl _) (by simp) ?_; (case hd => rfl); (case hg => rfl); (case hr => first | (go_simp; done) | (go_simp; rfl)); (case hp => exact (Reps.none _ _)); intro v285 w2 ho3 hb hg_ hnew_; clear hg_ hnew_; (first | rw [← Ny284.out] at ho3 | (simp only [Int.reduceToNat] at ho3; rw [← Ny284.out] at ho3)); have HO286 := Aside0.mk (Kd.R_lower ho3 (below_size (zw HB))); replace HB := zs HB hb; clear hb ho3))
 go_loopg [4, 5] k (fun kq v4 v5 w' => ∃ (x4_1 : List (S40)) (x5_1 : Int), v5 = .int .i64 x5_1 ∧ Aside0 (impl_setOf.l0 kq a0 x4_1 x5_1 = some (r1, r2)) ∧ Aside0 (kq ≤ k) ∧ Aside0 (Kd.R k40 40 w' w.heap.size (fun _ => True) v4 x4_1) ∧ Aside0 (Below w.heap.size w w'))
 case atStart => exact ⟨(y284), (1), zf, H', ⟨Nat.le_refl _⟩, ⟨zo HO286.out⟩, ⟨zw HB⟩⟩
 case round =>
  clear H'
  try clear p2
  try clear c3
  obtain ⟨x4_1, x5_1, rfl, HA, HK1, HO_4, HB⟩ := hrel
  cases gk with
  | zero => exact absurd HA.out (by simp [impl_setOf.l0])
  | succ k1 =>
   have H := HA.out
   clear HA
   simp only [impl_setOf.l0] at H
   by_cases c4 : x5_1 ≤ 9999
   ·rw [if_pos c4] at H
    have c4b0 : decide (x5_1 ≤ 9999) = true := decide_eq_true c4
    clear c4
    replace H := Option.bind_eq_some_iff.mp H
    obtain ⟨t287, A50, H⟩ := H
    have A5 := Aside0.mk A50
    clear A50
    by_cases c6 : t287 = true
    ·subst c6
     rw [if_pos rfl] at H
     by_cases c7 : (wrap64 ((x4_1.length : Int) - 1)) ≥ 0
     ·rw [if_pos c7] at H
      have c7b0 : decide (0 ≤ (wrap64 ((x4_1.length : Int) - 1))) = true := decide_eq_true c7
      clear c7
      obtain ⟨ji8, hji8⟩ : ∃ j_ : Int, (wrap64 ((x4_1.length : Int) - 1)) = j_ := ⟨_, rfl⟩
      replace H : (if 0 ≤ (ji8) then (if (ji8) < (x4_1.length : Int) then (if ((rd_T40 x4_1 (ji8)).f1) = (wrap64 (x5_1 - 1)) then (impl_setOf.l0 k1 a0 (x4_1.set ((ji8) : Int).toNat (⟨(rd_T40 x4_1 (ji8)).f0, x5_1⟩ : S40)) (wrap64 (x5_1 + 1))) else (if x4_1.length < 8796093022208 then (impl_setOf.l0 k1 a0 (x4_1 ++ [(⟨x5_1, x5_1⟩ : S40)]) (wrap64 (x5_1 + 1))) else (none))) else (none)) else (none)) = some (r1, r2) := by first | (rw [hji8] at H; exact H) | (simp only [hji8] at H ⊢; exact H)
      (try rw [hji8] at c7b0)
      (try rw [hji8] at A5)
      have hji8w : (IntKind.i64.wrap ((x4_1.length : Int) - 1)) = ji8 := (i64_w _).trans hji8
      by_cases c9 : 0 ≤ (ji8)
      ·rw [if_pos c9] at H
       have c9b0 : decide (0 ≤ (ji8)) = true := decide_eq_true c9
       clear c9
       by_cases c10 : (ji8) < (x4_1.length : Int)
       ·rw [if_pos c10] at H
        have c10b0 : decide ((ji8) < (x4_1.length : Int)) = true := decide_eq_true c10
        clear c10
        by_cases c11 : ((rd_T40 x4_1 (ji8)).f1) = (wrap64 (x5_1 - 1))
        ·rw [if_pos c11] at H
         have c11b0 : (((rd_T40 x4_1 (ji8)).f1) == (wrap64 (x5_1 - 1))) = true := beq_iff_eq.mpr c11
         have c11b1 : (((rd_T40 x4_1 (ji8)).f1) != (wrap64 (x5_1 - 1))) = false := bne_eq_false_iff_eq.mpr c11
         clear c11
         obtain ⟨y289, hy289⟩ : ∃ y_ : List (S40), y_ = (x4_1.set ((ji8) : Int).toNat (⟨(rd_T40 x4_1 (ji8)).f0, x5_1⟩ : S40)) := ⟨_, rfl⟩
         replace H : (impl_setOf.l0 k1 a0 y289 (wrap64 (x5_1 + 1))) = some (r1, r2) := by first | (rw [hy289]; with_reducible exact H) | (have H2_ := (Option.bind_some _ _).symm.trans H; rw [hy289]; with_reducible exact H2_) | (have H2_ := (Option.bind_some _ _).symm.trans H; with_reducible exact H2_) | with_reducible exact H | (rw [hy289]; exact H) | exact H
         have Ny289 := Aside0.mk hy289
         clear hy289
         have H' := Aside0.mk H
         clear H
         go_wp2_with (first | (go_at_fn g; (with_reducible refine (HPV.out x5_1 true _ A5.out (zw HB)).mono ?_); rintro e w13 ⟨rfl, hb⟩; replace HO_4 := Aside0.mk (Kd.R_below (zo HO_4.out) hb); replace HB := zs HB hb; clear hb; obtain ⟨Ao14, co14, eo14⟩ := Kd.R_slice HO_4.out; subst eo14; have p288 : 0 ≤ ((ji8) : Int) := of_decide_eq_true za; have q288 : (ji8) < (x4_1.length : Int) := of_decide_eq_true za; obtain ⟨ad288, e288, hx288_0, hx288_1⟩ := at_T40 (Kd.R_reads' HO_4.out).2.2 (ji8) p288 q288; cases e288; replace p288 := eq_true p288; replace q288 := eq_true q288; have p12 : 0 ≤ ((ji8) : Int) := of_decide_eq_true za; have q12 : ((ji8) : Int) < ((x4_1.length : Int) : Int) := of_decide_eq_true za; obtain ⟨go12, co12, eo12, gb12, gl12, cl12, HG12⟩ := Kd.R_form HO_4.out (by omega); (first | cases eo12 | (injection eo12 with ea_ en_ ec_; (first | subst ea_ | (injection ea_ with ea_; subst ea_)); subst ec_; clear en_)); have GB12 := Aside0.mk gb12; have GG12 := Aside0.mk HG12; clear gb12 gl12 HG12; (first | simp only [add_plain] at hx288_0 | skip); (first | simp only [add_plain] at hx288_1 | skip); obtain ⟨ce12, hcl12, hM12, hcc12, hfr12⟩ := Kd.R_elem HO_4.out z40 ((ji8) : Int) p12 q12; obtain rfl := k40_openM hM12; have hx12_0 : w13.cell? ⟨go12, ((ji8) : Int).toNat * 2, none⟩ = some (.int .i64 ((rd_T40 x4_1 (ji8)).f0)) := hcc12 0 _ rfl; have hx12_1 : w13.cell? ⟨go12, ((ji8) : Int).toNat * 2 + 1, none⟩ = some (.int .i64 ((rd_T40 x4_1 (ji8)).f1)) := hcc12 1 _ rfl; have hf12_0 : w13.frozen? ⟨go12, ((ji8) : Int).toNat * 2, none⟩ = false := hfr12 0; have hf12_1 : w13.frozen? ⟨go12, ((ji8) : Int).toNat * 2 + 1, none⟩ = false := hfr12 1; clear hcl12 hcc12 hfr12 hM12; replace p12 := eq_true p12; replace q12 := eq_true q12; have HX15 := Aside0.mk (show Kd.R k40 40 w13 w.heap.size (fun _ => True) (.slice (some ⟨go12, 0, none⟩) x4_1.length co14) x4_1 from (zo HO_4.out)); obtain ⟨ce15, hcl15, hM15, hcc15, hfr15⟩ := Kd.R_elem HX15.out z40 ((ji8) : Int) (of_decide_eq_true za) (by have h_ : ((ji8) : Int) < ((x4_1.length : Int) : Int) := of_decide_eq_true za; first | exact h_ | (have e_ := (Kd.R_reads' HO_4.out).1; omega) | simpa using h_); obtain rfl := k40_openM hM15; have HP15 := Kd.R_seg HX15.out ((ji8) : Int) (of_decide_eq_true za) (by have h_ : ((ji8) : Int) < ((x4_1.length : Int) : Int) := of_decide_eq_true za; first | exact h_ | (have e_ := (Kd.R_reads' HO_4.out).1; omega) | simpa using h_) (seg := [.int .i64 x5_1]) (j := 1) hcl15 hcc15 (show 2 ≤ 2 from by decide) (x' := (⟨(rd_T40 x4_1 (ji8)).f0, x5_1⟩ : S40)) (k40_mkM _ _ _ (⟨(rd_T40 x4_1 (ji8)).f0, x5_1⟩ : S40) ) (fun _ hk => hk); have hx15_1 := hcc15 1 _ rfl; (try simp only [show (k40).sz = 2 from rfl, Nat.mul_one, Nat.add_zero] at hx15_1); have hf15_1 := hfr15 1; (try simp only [show (k40).sz = 2 from rfl, Nat.mul_one, Nat.add_zero] at hf15_1); clear hcl15 hcc15 hfr15 hM15) | ((with_reducible refine gate_store (t := 3) (p := 35) rfl ?_); refine store_event (t := 3) (p := 35) (v := ?vo_w16) (w1 := (w13.setCell ⟨go12, ((ji8) : Int).toNat * 2 + 1, none⟩ (.int .i64 x5_1))) ?hg ?ho ?hn ?hr ?_; (case ho => rfl); (case hg => rfl); (case hn => rfl); (case hr => first | (go_simp; done) | (go_simp; rfl)); intro w16 hw; have hg : w13.grownBy w16 (some go12) := (by rw [hw]; exact HP15.2); have hp_ : Kd.R k40 40 w16 w.heap.size (fun _ => True) (.slice (some ⟨go12, 0, none⟩) x4_1.length co14) y289 := (by rw [hw, Ny289.out]; exact HP15.1); clear HP15; replace HO_4 := Aside0.mk (hp_); replace HB := Aside0.mk ((by rw [hw]; exact below_set (HB.out) GB12.out : Below w.heap.size w w16)); clear hg hw hp_))
         go_roundg k1
         case measure => have := HK1.out; omega
         case rel => exact ⟨(y289), (wrap64 (x5_1 + 1)), zf, H', ⟨by have := HK1.out; omega⟩, ⟨zo HO_4.out⟩, ⟨zw HB⟩⟩
        ·rw [if_neg c11] at H
         have c11b0 : (((rd_T40 x4_1 (ji8)).f1) == (wrap64 (x5_1 - 1))) = false := beq_eq_false_iff_ne.mpr c11
         have c11b1 : (((rd_T40 x4_1 (ji8)).f1) != (wrap64 (x5_1 - 1))) = true := bne_iff_ne.mpr c11
         by_cases c17 : x4_1.length < 8796093022208
         ·rw [if_pos c17] at H
          have LMc17 := Aside0.mk c17
          clear c17
          obtain ⟨y290, hy290⟩ : ∃ y_ : List (S40), y_ = (x4_1 ++ [(⟨x5_1, x5_1⟩ : S40)]) := ⟨_, rfl⟩
          replace H : (impl_setOf.l0 k1 a0 y290 (wrap64 (x5_1 + 1))) = some (r1, r2) := by first | (rw [hy290]; with_reducible exact H) | (have H2_ := (Option.bind_some _ _).symm.trans H; rw [hy290]; with_reducible exact H2_) | (have H2_ := (Option.bind_some _ _).symm.trans H; with_reducible exact H2_) | with_reducible exact H | (rw [hy290]; exact H) | exact H
          have Ny290 := Aside0.mk hy290
          clear hy290
          have H' := Aside0.mk H
          clear H
          go_wp2_with (first | (go_at_fn g; (with_reducible refine (HPV.out x5_1 true _ A5.out (zw HB)).mono ?_); rintro e w18 ⟨rfl, hb⟩; replace HO_4 := Aside0.mk (Kd.R_below (zo HO_4.out) hb); replace HB := zs HB hb; clear hb; obtain ⟨Ao19, co19, eo19⟩ := Kd.R_slice HO_4.out; subst eo19; have p288 : 0 ≤ ((ji8) : Int) := of_decide_eq_true za; have q288 : (ji8) < (x4_1.length : Int) := of_decide_eq_true za; obtain ⟨ad288, e288, hx288_0, hx288_1⟩ := at_T40 (Kd.R_reads' HO_4.out).2.2 (ji8) p288 q288; cases e288; replace p288 := eq_true p288; replace q288 := eq_true q288) | ((with_reducible refine gate_builtin (b := .append) (xs := #[.tmp 36, .tmp 40]) rfl ?_); at_builtin; refine Kd.R_append k40 (w0 := w) w.heap.size rfl (.tmp 36) (.tmp 40) 24 40 (.agg #[(.int .i64 0), (.int .i64 0)]) 16 rfl Tryd.underlying24 info40 rfl (by decide) (by omega) (.slice (some ad288) x4_1.length co19) x4_1 (⟨x5_1, x5_1⟩ : S40) [.int .i64 x5_1, .int .i64 x5_1] (fun _ => True) (fun _ => False) rfl rfl ?aP (fun _ hk => hk.elim) ?aF ?aO ?aB ?aS ?aL ?_; (case aP => exact k40_mkM _ _ _ (⟨x5_1, x5_1⟩ : S40)); (case aB => exact (zw HB)); (case aF => exact (fun _ _ => trivial)); (case aO => exact (zo HO_4.out)); (case aS => exact (below_size (zw HB))); (case aL => have := LMc17.out; omega); intro v291 w20 ho hb hg hat; rw [← Ny290.out] at ho; replace HB := Aside0.mk (hb); have HO292 := Aside0.mk (ho); clear HO_4; clear ho hb hg hat))
          go_roundg k1
          case measure => have := HK1.out; omega
          case rel => exact ⟨(y290), (wrap64 (x5_1 + 1)), zf, H', ⟨by have := HK1.out; omega⟩, ⟨zo HO292.out⟩, ⟨zw HB⟩⟩
         ·rw [if_neg c17] at H
          exact absurd H (by simp)
       ·rw [if_neg c10] at H
        exact absurd H (by simp)
      ·rw [if_neg c9] at H
       exact absurd H (by simp)
     ·rw [if_neg c7] at H
      have c7b0 : decide (0 ≤ (wrap64 ((x4_1.length : Int) - 1))) = false := decide_eq_false c7
      clear c7
      by_cases c21 : x4_1.length < 8796093022208
      ·rw [if_pos c21] at H
       have LMc21 := Aside0.mk c21
       clear c21
       obtain ⟨y293, hy293⟩ : ∃ y_ : List (S40), y_ = (x4_1 ++ [(⟨x5_1, x5_1⟩ : S40)]) := ⟨_, rfl⟩
       replace H : (impl_setOf.l0 k1 a0 y293 (wrap64 (x5_1 + 1))) = some (r1, r2) := by first | (rw [hy293]; with_reducible exact H) | (have H2_ := (Option.bind_some _ _).symm.trans H; rw [hy293]; with_reducible exact H2_) | (have H2_ := (Option.bind_some _ _).symm.trans H; with_reducible exact H2_) | with_reducible exact H | (rw [hy293]; exact H) | exact H
       have Ny293 := Aside0.mk hy293
       clear hy293
       have H' := Aside0.mk H
       clear H
       go_wp2_with (first | (go_at_fn g; (with_reducible refine (HPV.out x5_1 true _ A5.out (zw HB)).mono ?_); rintro e w22 ⟨rfl, hb⟩; replace HO_4 := Aside0.mk (Kd.R_below (zo HO_4.out) hb); replace HB := zs HB hb; clear hb; obtain ⟨Ao23, co23, eo23⟩ := Kd.R_slice HO_4.out; subst eo23) | ((with_reducible refine gate_builtin (b := .append) (xs := #[.tmp 36, .tmp 40]) rfl ?_); at_builtin; refine Kd.R_append k40 (w0 := w) w.heap.size rfl (.tmp 36) (.tmp 40) 24 40 (.agg #[(.int .i64 0), (.int .i64 0)]) 16 rfl Tryd.underlying24 info40 rfl (by decide) (by omega) (.slice Ao23 x4_1.length co23) x4_1 (⟨x5_1, x5_1⟩ : S40) [.int .i64 x5_1, .int .i64 x5_1] (fun _ => True) (fun _ => False) rfl rfl ?aP (fun _ hk => hk.elim) ?aF ?aO ?aB ?aS ?aL ?_; (case aP => exact k40_mkM _ _ _ (⟨x5_1, x5_1⟩ : S40)); (case aB => exact (zw HB)); (case aF => exact (fun _ _ => trivial)); (case aO => exact (zo HO_4.out)); (case aS => exact (below_size (zw HB))); (case aL => have := LMc21.out; omega); intro v294 w24 ho hb hg hat; rw [← Ny293.out] at ho; replace HB := Aside0.mk (hb); have HO295 := Aside0.mk (ho); clear HO_4; clear ho hb hg hat))
       go_roundg k1
       case measure => have := HK1.out; omega
       case rel => exact ⟨(y293), (wrap64 (x5_1 + 1)), zf, H', ⟨by have := HK1.out; omega⟩, ⟨zo HO295.out⟩, ⟨zw HB⟩⟩
      ·rw [if_neg c21] at H
       exact absurd H (by simp)
    ·replace c6 := Bool.eq_false_iff.mpr c6
     subst c6
     rw [if_neg (show ¬ (false = true) by decide)] at H
     have H' := Aside0.mk H
     clear H
     go_wp2_with (first | (go_at_fn g; (with_reducible refine (HPV.out x5_1 false _ A5.out (zw HB)).mono ?_); rintro e w25 ⟨rfl, hb⟩; replace HO_4 := Aside0.mk (Kd.R_below (zo HO_4.out) hb); replace HB := zs HB hb; clear hb))
     go_roundg k1
     case measure => have := HK1.out; omega
     case rel => exact ⟨(x4_1), (wrap64 (x5_1 + 1)), zf, H', ⟨by have := HK1.out; omega⟩, ⟨zo HO_4.out⟩, ⟨zw HB⟩⟩
   ·rw [if_neg c4] at H
    have c4b0 : decide (x5_1 ≤ 9999) = false := decide_eq_false c4
    clear c4
    simp only [Option.some.injEq, Prod.mk.injEq] at H
    obtain ⟨rfl, rfl⟩ := H
    obtain ⟨Ao26, co26, eo26⟩ := Kd.R_slice HO_4.out
    subst eo26
    go_wp2
    go_ret2
    exact ⟨_, ze, zo HO_4.out, zw HB⟩

/-! ### impl_SetHas: function 41 -/
def impl_SetHas.l0 : Nat → Int → List (S40) → Int → Int → Option (Bool)
 | 0, _, _, _, _ => none
 | k + 1, x1, x7, x8, x9 => if x9 < x8 then (if 0 ≤ x9 then (if x9 < (x7.length : Int) then ((impl_within.f x1 ((rd_T40 x7 x9).f0) ((rd_T40 x7 x9).f1)).bind fun t298 => (if t298 = true then (some true) else (impl_SetHas.l0 k x1 x7 x8 (wrap64 (x9 + 1))))) else (none)) else (none)) else (some false)
def impl_SetHas.f (k : Nat) (l0 : List (S40)) (a1 : Int) : Option (Bool) := impl_SetHas.l0 k a1 l0 (l0.length : Int) 0
theorem impl_SetHas.mono_l : ∀ k, (∀ y0 y1 y2 y3, LeO (impl_SetHas.l0 k y0 y1 y2 y3) (impl_SetHas.l0 (k + 1) y0 y1 y2 y3))
 | 0 => fun _ _ _ _ r h => by simp [impl_SetHas.l0] at h
 | k + 1 => by
  have ih0 := impl_SetHas.mono_l k
  ·intro y0 y1 y2 y3
   unfold impl_SetHas.l0
   repeat' first
   | (with_reducible exact ih0 _ _ _ _)
   | (with_reducible exact LeO.refl _)
   | (with_reducible exact LeO.none _)
   | (with_reducible refine LeO.ite ?_ ?_)
   | (with_reducible refine LeO.bind ?_ (fun _ => ?_))
   | exact ih0 _ _ _ _
   | exact LeO.none _
   | refine LeO.ite ?_ ?_
   | refine LeO.bind ?_ (fun _ => ?_)
theorem impl_SetHas.mono : ∀ a0 a1 k, LeO (impl_SetHas.f k a0 a1) (impl_SetHas.f (k + 1) a0 a1) := by
 intro a0 a1 k
 have ih0 := impl_SetHas.mono_l k
 unfold impl_SetHas.f
 repeat' first
   | (with_reducible exact ih0 _ _ _ _)
   | (with_reducible exact LeO.refl _)
   | (with_reducible exact LeO.none _)
   | (with_reducible refine LeO.ite ?_ ?_)
   | (with_reducible refine LeO.bind ?_ (fun _ => ?_))
   | exact ih0 _ _ _ _
   | exact LeO.none _
   | refine LeO.ite ?_ ?_
   | refine LeO.bind ?_ (fun _ => ?_)
set_option maxHeartbeats 8000000 in
set_option maxRecDepth 100000 in
theorem impl_SetHas.calls (k : Nat) (A0 : Option Addr) (c0 : Nat) (l0 : List (S40)) (a1 : Int) (r : Bool) (w : World) (hr0 : Kd.C k40 w A0 l0.length l0) (hc0 : l0.length ≤ c0) (h : impl_SetHas.f k l0 a1 = some r) :
  Calls Tryd.prog 41 #[.slice A0 l0.length c0, .int .i64 a1] w fun e w' => e = .returned (.bool r) ∧ Below w.heap.size w w' := by
 have hu40 := Tryd.underlying40
 have HR0 := Aside0.mk hr0
 have HC0 := Aside0.mk hc0
 clear hr0 hc0
 have HB := Aside0.mk (Below.refl w.heap.size w)
 have H : (impl_SetHas.l0 k a1 l0 (l0.length : Int) 0) = some r := h
 clear h
 have H' := Aside0.mk H
 clear H
 go_enter Tryd.func41, Tryd.ntmps41
 go_wp2
 go_loopg [9] k (fun kq v9 w' => ∃ (x9_1 : Int), v9 = .int .i64 x9_1 ∧ Aside0 (impl_SetHas.l0 kq a1 l0 (l0.length : Int) x9_1 = some r) ∧ Aside0 (kq ≤ k) ∧ Aside0 (Below w.heap.size w w'))
 case atStart => exact ⟨(0), zf, H', ⟨Nat.le_refl _⟩, ⟨zw HB⟩⟩
 case round =>
  clear H'
  try clear p2
  obtain ⟨x9_1, rfl, HA, HK1, HB⟩ := hrel
  cases gk with
  | zero => exact absurd HA.out (by simp [impl_SetHas.l0])
  | succ k1 =>
   have H := HA.out
   clear HA
   simp only [impl_SetHas.l0] at H
   by_cases c3 : x9_1 < (l0.length : Int)
   ·rw [if_pos c3] at H
    have c3b0 : decide (x9_1 < (l0.length : Int)) = true := decide_eq_true c3
    clear c3
    by_cases c4 : 0 ≤ x9_1
    ·rw [if_pos c4] at H
     have c4b0 : decide (0 ≤ x9_1) = true := decide_eq_true c4
     clear c4
     by_cases c5 : x9_1 < (l0.length : Int)
     ·rw [if_pos c5] at H
      have c5b0 : decide (x9_1 < (l0.length : Int)) = true := decide_eq_true c5
      clear c5
      replace H := Option.bind_eq_some_iff.mp H
      obtain ⟨t298, A60, H⟩ := H
      have A6 := Aside0.mk A60
      clear A60
      by_cases c7 : t298 = true
      ·subst c7
       rw [if_pos rfl] at H
       obtain rfl := Option.some.inj H
       have p296 : 0 ≤ (x9_1 : Int) := of_decide_eq_true za
       have q296 : x9_1 < (l0.length : Int) := of_decide_eq_true za
       obtain ⟨ad296, e296, hx296_0, hx296_1⟩ := at_T40 HR0.out x9_1 p296 q296
       cases e296
       replace hx296_0 := zU HB.out hx296_0
       replace hx296_1 := zU HB.out hx296_1
       replace p296 := eq_true p296
       replace q296 := eq_true q296
       go_wp2_with (first | ((with_reducible refine gate_dst (N := 6) rfl ?_); refine zx (N := 6) (cs := #[.int .i64 0, .int .i64 0]) (t := 40) ?_; intro gb297 hg w8 hbox hb; have BK297 := Aside0.mk (hbox); have GW297 := zg HB hg; have GE297 := zg HB hg; replace HB := zs HB hb; clear hb hbox hg; have hcz9_0 : w8.cell? ⟨gb297, 0, none⟩ = some (.int .i64 0) := (blk_cell BK297.out 0).trans rfl; have hcz9_1 : w8.cell? ⟨gb297, 1, none⟩ = some (.int .i64 0) := (blk_cell BK297.out 1).trans rfl; have hfz9_0 := blk_frozen BK297.out 0; have hfz9_1 := blk_frozen BK297.out 1) | ((with_reducible refine gate_callee (f := 37) rfl ?_); refine zG (some 18) Tryd.func37 #[.int .i64 a1, .int .i64 ((rd_T40 l0 x9_1).f0), .int .i64 ((rd_T40 l0 x9_1).f1)] ?_; (with_reducible refine (impl_within.calls a1 ((rd_T40 l0 x9_1).f0) ((rd_T40 l0 x9_1).f1) true _ A6.out).mono ?_); rintro e w' ⟨rfl, ⟨nd, rfl⟩⟩; refine ⟨_, rfl, ?_⟩))
       go_ret
       exact ⟨ze, zw HB⟩
      ·replace c7 := Bool.eq_false_iff.mpr c7
       subst c7
       rw [if_neg (show ¬ (false = true) by decide)] at H
       have H' := Aside0.mk H
       clear H
       have p296 : 0 ≤ (x9_1 : Int) := of_decide_eq_true za
       have q296 : x9_1 < (l0.length : Int) := of_decide_eq_true za
       obtain ⟨ad296, e296, hx296_0, hx296_1⟩ := at_T40 HR0.out x9_1 p296 q296
       cases e296
       replace hx296_0 := zU HB.out hx296_0
       replace hx296_1 := zU HB.out hx296_1
       replace p296 := eq_true p296
       replace q296 := eq_true q296
       go_wp2_with (first | ((with_reducible refine gate_dst (N := 6) rfl ?_); refine zx (N := 6) (cs := #[.int .i64 0, .int .i64 0]) (t := 40) ?_; intro gb297 hg w10 hbox hb; have BK297 := Aside0.mk (hbox); have GW297 := zg HB hg; have GE297 := zg HB hg; replace HB := zs HB hb; clear hb hbox hg; have hcz11_0 : w10.cell? ⟨gb297, 0, none⟩ = some (.int .i64 0) := (blk_cell BK297.out 0).trans rfl; have hcz11_1 : w10.cell? ⟨gb297, 1, none⟩ = some (.int .i64 0) := (blk_cell BK297.out 1).trans rfl; have hfz11_0 := blk_frozen BK297.out 0; have hfz11_1 := blk_frozen BK297.out 1) | ((with_reducible refine gate_callee (f := 37) rfl ?_); refine zG (some 18) Tryd.func37 #[.int .i64 a1, .int .i64 ((rd_T40 l0 x9_1).f0), .int .i64 ((rd_T40 l0 x9_1).f1)] ?_; (with_reducible refine (impl_within.calls a1 ((rd_T40 l0 x9_1).f0) ((rd_T40 l0 x9_1).f1) false _ A6.out).mono ?_); rintro e w' ⟨rfl, ⟨nd, rfl⟩⟩; refine ⟨_, rfl, ?_⟩))
       go_roundg k1
       case measure => have := HK1.out; omega
       case rel => exact ⟨(wrap64 (x9_1 + 1)), zf, H', ⟨by have := HK1.out; omega⟩, ⟨zw HB⟩⟩
     ·rw [if_neg c5] at H
      exact absurd H (by simp)
    ·rw [if_neg c4] at H
     exact absurd H (by simp)
   ·rw [if_neg c3] at H
    have c3b0 : decide (x9_1 < (l0.length : Int)) = false := decide_eq_false c3
    clear c3
    obtain rfl := Option.some.inj H
    go_wp2
    go_ret
    exact ⟨ze, zw HB⟩

-- NOT PRINTED: function 40 (impl_SetAdd_1)

/-! ### impl_SetAdd: function 9, given by hand -/
 namespace impl_SetAdd
 section
 open Go.Proofs.YthngecooaddddaaDoor.Gen
 theorem impl_within_ev (a b c : Int) : impl_within.f a b c = some (decide (b ≤ a ∧ a ≤ c)) := by
  unfold impl_within.f
  by_cases h : a ≥ b
  ·rw [if_pos h]; congr 1; simp; omega
  ·rw [if_neg h]; congr 1; simp; omega
 
 /-- a range as a pair -/
 def pr (x : S40) : Int × Int := (x.f0, x.f1)
 theorem rd45_at (l : List S40) (i : Nat) (h : i < l.length) : rd_T40 l (i : Int) = l[i] := by
  unfold rd_T40
  rw [Int.toNat_natCast, List.getD_eq_getElem?_getD, List.getElem?_eq_getElem h]; rfl
 theorem impl_SetHas_l0 (l : List S40) (hl : l.length ≤ 1048576) (n : Int) : ∀ (d i : Nat), i + d = l.length → Ev (fun k => impl_SetHas.l0 k n l (l.length : Int) (i : Int)) (hasL ((l.drop i).map pr) n) := by
  intro d
  induction d with
  | zero =>
   intro i hi
   refine Ev.step (impl_SetHas.l0.eq_2 n l (l.length : Int) (i : Int)) (Ev.no (by omega) (Ev.const ?_))
   rw [List.drop_eq_nil_of_le (by omega)]; rfl
  | succ d ih =>
   intro i hi
   have hlt : i < l.length := by omega
   have e := rd45_at l i hlt
   refine Ev.step (impl_SetHas.l0.eq_2 n l (l.length : Int) (i : Int)) (Ev.yes (by omega) (Ev.yes (by omega) (Ev.yes (by omega) (Ev.bindc (impl_within_ev _ _ _) ?_))))
   rw [w64 (by omega) (by omega), List.drop_eq_getElem_cons hlt, ← e]
   generalize rd_T40 l (i : Int) = x
   have e2 : hasL ((x :: l.drop (i + 1)).map pr) n = (decide (x.f0 ≤ n ∧ n ≤ x.f1) || hasL ((l.drop (i + 1)).map pr) n) := rfl
   rw [e2]
   have := ih (i + 1) (by omega)
   refine Ev.ite (fun h => ?_) (fun h => ?_)
   ·rw [h]; exact Ev.now _
   ·rw [Bool.not_eq_true] at h
    rw [h, Bool.false_or]; exact this
 theorem impl_SetHas_ev (l : List S40) (hl : l.length ≤ 1048576) (n : Int) : Ev (fun k => impl_SetHas.f k l n) (hasL (l.map pr) n) := impl_SetHas_l0 l hl n l.length 0 (by omega)
 
 theorem pv (p : Int → Bool) (g g' : Nat) (lb lb' : Array Value) : ∀ k xs x, impl_setOf.l0 k ⟨p, g, lb⟩ xs x = impl_setOf.l0 k ⟨p, g', lb'⟩ xs x := by
  intro k
  induction k with
  | zero => intro xs x; rfl
  | succ k ih =>
   intro xs x
   simp only [impl_setOf.l0, PVcall.f, Option.bind_some, ih]
 theorem within_below (a b c : Int) (W : World) : Calls Tryd.prog 37 #[.int .i64 a, .int .i64 b, .int .i64 c] W fun e w' => e = .returned (.bool (decide (b ≤ a ∧ a ≤ c))) ∧ Below W.heap.size W w' := by
  refine (impl_within.calls a b c _ W (impl_within_ev a b c)).mono ?_
  rintro e w' ⟨rfl, m, rfl⟩
  exact ⟨rfl, pw_below_drewN (Below.refl _ _) m⟩
 def holds (l0 : List S40) (a1 a2 : Int) (n : Int) : Bool := hasL (l0.map pr) n || decide (a1 ≤ n ∧ n ≤ a2)
 /-- the closure -/
 theorem closure (B0 B1 B2 : Nat) (A0 : Option Addr) (c0 : Nat) (l0 : List S40) (a1 a2 : Int) (w : World)
   (hr0 : Kd.C k40 w A0 l0.length l0) (hc0 : l0.length ≤ c0) (h0 : l0.length ≤ 1048576)
   (hx0 : w.cell? ⟨B0, 0, none⟩ = some (.slice A0 l0.length c0)) (hx1 : w.cell? ⟨B1, 0, none⟩ = some (.int .i64 a1)) (hx2 : w.cell? ⟨B2, 0, none⟩ = some (.int .i64 a2)) (hB1 : B1 < w.heap.size) (hB2 : B2 < w.heap.size) (n : Int) :
   Calls Tryd.prog 40 #[.int .i64 n, .pointer (some ⟨B0, 0, none⟩), .pointer (some ⟨B1, 0, none⟩), .pointer (some ⟨B2, 0, none⟩)] w fun e w' => e = .returned (.bool (holds l0 a1 a2 n)) ∧ Below w.heap.size w w' := by
  obtain ⟨k0, e0⟩ := Ev.rounds (impl_SetHas_ev l0 h0 n)
  have G0 := Aside0.mk (impl_SetHas.calls k0 A0 c0 l0 n _ w hr0 hc0 e0)
  have G1 := Aside0.mk (fun W : World => within_below n a1 a2 W)
  unfold holds
  generalize hasL (l0.map pr) n = b0 at G0 ⊢
  generalize decide (a1 ≤ n ∧ n ≤ a2) = b1 at G1 ⊢
  clear e0 hr0 h0 hc0
  go_enter Tryd.func40, Tryd.ntmps40
  cases b0
  ·go_wp2_with (first | (go_at_call 41; refine G0.out.mono ?_; rintro e W1 ⟨rfl, HB⟩; have hy1 : W1.cell? ⟨B1, 0, none⟩ = some (.int .i64 a1) := (HB.cell (p := ⟨B1, 0, none⟩) hB1).trans hx1; have hy2 : W1.cell? ⟨B2, 0, none⟩ = some (.int .i64 a2) := (HB.cell (p := ⟨B2, 0, none⟩) hB2).trans hx2; have HBa := Aside0.mk HB; clear HB G0) | (go_at_call 37; refine (G1.out _).mono ?_; rintro e W2 ⟨rfl, HB⟩; have HBb := Aside0.mk (below_step HBa.out HB); clear HB G1))
   go_ret
   exact ⟨by simp, HBb.out⟩
  ·go_wp2_with (first | (go_at_call 41; refine G0.out.mono ?_; rintro e W1 ⟨rfl, HB⟩; have hy1 : W1.cell? ⟨B1, 0, none⟩ = some (.int .i64 a1) := (HB.cell (p := ⟨B1, 0, none⟩) hB1).trans hx1; have hy2 : W1.cell? ⟨B2, 0, none⟩ = some (.int .i64 a2) := (HB.cell (p := ⟨B2, 0, none⟩) hB2).trans hx2; have HBa := Aside0.mk HB; clear HB G0))
   go_ret
   exact ⟨by simp, HBa.out⟩
 end
 end impl_SetAdd
def impl_SetAdd.f (k : Nat) (l0 : List S40) (a1 a2 : Int) : Option (List S40 × Bool) :=
 if l0.length ≤ 1048576 then
  (impl_SetOk.f k l0).bind fun b => if b = true ∧ (1 ≤ a1 ∧ a1 ≤ 9999) ∧ (a1 ≤ a2 ∧ a2 ≤ 9999) then (impl_setOf.f k ⟨impl_SetAdd.holds l0 a1 a2, 0, #[]⟩).bind fun q => if q.2 = true then some (q.1, true) else some (l0, false) else some (l0, false)
 else none
theorem impl_SetAdd.mono : ∀ a0 a1 a2 k, LeO (impl_SetAdd.f k a0 a1 a2) (impl_SetAdd.f (k + 1) a0 a1 a2) := by
 intro a0 a1 a2 k
 unfold impl_SetAdd.f
 exact LeO.ite (LeO.bind (impl_SetOk.mono _ _) (fun _ => LeO.ite (LeO.bind (impl_setOf.mono _ _) (fun _ => LeO.refl _)) (LeO.refl _))) (LeO.refl _)
theorem impl_SetAdd.calls (k : Nat) (A0 : Option Addr) (c0 : Nat) (l0 : List (S40)) (a1 : Int) (a2 : Int) (r1 : List (S40)) (r2 : Bool) (w : World) (hr0 : Kd.C k40 w A0 l0.length l0) (hc0 : l0.length ≤ c0) (h : impl_SetAdd.f k l0 a1 a2 = some (r1, r2)) :
  Calls Tryd.prog 9 #[.slice A0 l0.length c0, .int .i64 a1, .int .i64 a2] w fun e w' => ∃ v0_ : Value, e = .returned (.tuple #[v0_, .bool r2]) ∧ Kd.R k40 40 w' w.heap.size (fun _ => True) v0_ r1 ∧ Below w.heap.size w w' := by
 unfold impl_SetAdd.f at h
 by_cases hl : l0.length ≤ 1048576
 case neg => rw [if_neg hl] at h; cases h
 rw [if_pos hl] at h
 obtain ⟨b, hb, h⟩ := Option.bind_eq_some_iff.mp h
 have hb2 : Below w.heap.size w (((w.alloc (.cells #[.slice A0 l0.length c0] 24)).alloc (.cells #[.int .i64 a1] 3)).alloc (.cells #[.int .i64 a2] 3)) := below_alloc (below_alloc (below_alloc (Below.refl _ _) _) _) _
 have es : ((w.alloc (.cells #[.slice A0 l0.length c0] 24)).alloc (.cells #[.int .i64 a1] 3)).heap.size = w.heap.size + 1 + 1 := by simp
 have hx0 : (((w.alloc (.cells #[.slice A0 l0.length c0] 24)).alloc (.cells #[.int .i64 a1] 3)).alloc (.cells #[.int .i64 a2] 3)).cell? ⟨w.heap.size, 0, none⟩ = some (.slice A0 l0.length c0) := ((below_alloc (Below.refl ((w.alloc (.cells #[.slice A0 l0.length c0] 24)).alloc (.cells #[.int .i64 a1] 3)).heap.size ((w.alloc (.cells #[.slice A0 l0.length c0] 24)).alloc (.cells #[.int .i64 a1] 3))) (.cells #[.int .i64 a2] 3)).cell (p := ⟨w.heap.size, 0, none⟩) (by rw [es]; show w.heap.size < w.heap.size + 1 + 1; omega)).trans (by simp)
 have hx1 : (((w.alloc (.cells #[.slice A0 l0.length c0] 24)).alloc (.cells #[.int .i64 a1] 3)).alloc (.cells #[.int .i64 a2] 3)).cell? ⟨w.heap.size + 1, 0, none⟩ = some (.int .i64 a1) := ((below_alloc (Below.refl ((w.alloc (.cells #[.slice A0 l0.length c0] 24)).alloc (.cells #[.int .i64 a1] 3)).heap.size ((w.alloc (.cells #[.slice A0 l0.length c0] 24)).alloc (.cells #[.int .i64 a1] 3))) (.cells #[.int .i64 a2] 3)).cell (p := ⟨w.heap.size + 1, 0, none⟩) (by rw [es]; show w.heap.size + 1 < w.heap.size + 1 + 1; omega)).trans (by simp)
 have g_ : ∀ (W : World) (v : Value) (t : Nat), (W.alloc (.cells #[v] t)).cell? ⟨W.heap.size, 0, none⟩ = some v := by intro W v t; simp
 have hx2 : (((w.alloc (.cells #[.slice A0 l0.length c0] 24)).alloc (.cells #[.int .i64 a1] 3)).alloc (.cells #[.int .i64 a2] 3)).cell? ⟨w.heap.size + 1 + 1, 0, none⟩ = some (.int .i64 a2) := by
  have h_ := g_ ((w.alloc (.cells #[.slice A0 l0.length c0] 24)).alloc (.cells #[.int .i64 a1] 3)) (.int .i64 a2) 3
  rw [es] at h_; exact h_
 have hs0 : w.heap.size < (((w.alloc (.cells #[.slice A0 l0.length c0] 24)).alloc (.cells #[.int .i64 a1] 3)).alloc (.cells #[.int .i64 a2] 3)).heap.size := by simp <;> omega
 have hs1 : w.heap.size + 1 < (((w.alloc (.cells #[.slice A0 l0.length c0] 24)).alloc (.cells #[.int .i64 a1] 3)).alloc (.cells #[.int .i64 a2] 3)).heap.size := by simp <;> omega
 have hs2 : w.heap.size + 1 + 1 < (((w.alloc (.cells #[.slice A0 l0.length c0] 24)).alloc (.cells #[.int .i64 a1] 3)).alloc (.cells #[.int .i64 a2] 3)).heap.size := by simp <;> omega
 have HB2 := Aside0.mk hb2
 have HBq := Aside0.mk (Below.refl (((w.alloc (.cells #[.slice A0 l0.length c0] 24)).alloc (.cells #[.int .i64 a1] 3)).alloc (.cells #[.int .i64 a2] 3)).heap.size (((w.alloc (.cells #[.slice A0 l0.length c0] 24)).alloc (.cells #[.int .i64 a1] 3)).alloc (.cells #[.int .i64 a2] 3)))
 have HS0 := Aside0.mk hs0
 have HS1 := Aside0.mk hs1
 have HS2 := Aside0.mk hs2
 have HX0 := Aside0.mk hx0
 have HX1 := Aside0.mk hx1
 have HX2 := Aside0.mk hx2
 have K0 := Aside0.mk (fun (W : World) (hb_ : Below (((w.alloc (.cells #[.slice A0 l0.length c0] 24)).alloc (.cells #[.int .i64 a1] 3)).alloc (.cells #[.int .i64 a2] 3)).heap.size (((w.alloc (.cells #[.slice A0 l0.length c0] 24)).alloc (.cells #[.int .i64 a1] 3)).alloc (.cells #[.int .i64 a2] 3)) W) => impl_SetOk.calls k A0 c0 l0 b W (Kd.C_below hr0 (below_step hb2 hb_)) hc0 hb)
 have KU := Aside0.mk (fun (W : World) => show Calls Tryd.prog 36 #[.int .i64 a1] W fun e w' => e = .returned (.bool (decide (1 ≤ a1 ∧ a1 ≤ 9999))) ∧ Below W.heap.size W w' from
  (impl_isUid.calls a1 _ W (show impl_isUid.f a1 = some (decide (1 ≤ a1 ∧ a1 ≤ 9999)) by unfold impl_isUid.f; rw [impl_SetAdd.impl_within_ev]; rfl)).mono (by rintro e w' ⟨rfl, m, rfl⟩; exact ⟨rfl, pw_below_drewN (Below.refl _ _) m⟩))
 have KW := Aside0.mk (fun (W : World) => impl_SetAdd.within_below a2 a1 9999 W)
 have KC := Aside0.mk (fun (W : World) (hb_ : Below (((w.alloc (.cells #[.slice A0 l0.length c0] 24)).alloc (.cells #[.int .i64 a1] 3)).alloc (.cells #[.int .i64 a2] 3)).heap.size (((w.alloc (.cells #[.slice A0 l0.length c0] 24)).alloc (.cells #[.int .i64 a1] 3)).alloc (.cells #[.int .i64 a2] 3)) W) => impl_copyRanges.calls A0 c0 l0 l0 W (Kd.C_below hr0 (below_step hb2 hb_)) hc0 (by unfold impl_copyRanges.f; rw [Option.bind_some, if_pos (by simp; omega)]; rfl))
 have GG := Aside0.mk (fun (q1 : List S40) (q2 : Bool) (hq : impl_setOf.f k ⟨impl_SetAdd.holds l0 a1 a2, 0, #[]⟩ = some (q1, q2)) (W : World) (hbW : Below (((w.alloc (.cells #[.slice A0 l0.length c0] 24)).alloc (.cells #[.int .i64 a1] 3)).alloc (.cells #[.int .i64 a2] 3)).heap.size (((w.alloc (.cells #[.slice A0 l0.length c0] 24)).alloc (.cells #[.int .i64 a1] 3)).alloc (.cells #[.int .i64 a2] 3)) W) => impl_setOf.calls k ⟨impl_SetAdd.holds l0 a1 a2, 40, #[.pointer (some ⟨w.heap.size, 0, none⟩), .pointer (some ⟨w.heap.size + 1, 0, none⟩), .pointer (some ⟨w.heap.size + 1 + 1, 0, none⟩)]⟩ q1 q2 W
  ⟨enters_of Tryd.func40 (by kernel_rfl) rfl, fun W2 x hbx => by
   have hbb := below_step hbW hbx
   show Calls Tryd.prog 40 #[.int .i64 x, .pointer (some ⟨w.heap.size, 0, none⟩), .pointer (some ⟨w.heap.size + 1, 0, none⟩), .pointer (some ⟨w.heap.size + 1 + 1, 0, none⟩)] W2 _
   exact impl_SetAdd.closure _ _ _ A0 c0 l0 a1 a2 W2 (Kd.C_below hr0 (below_step hb2 hbb)) hc0 hl ((hbb.cell (p := ⟨w.heap.size, 0, none⟩) hs0).trans hx0) ((hbb.cell (p := ⟨w.heap.size + 1, 0, none⟩) hs1).trans hx1) ((hbb.cell (p := ⟨w.heap.size + 1 + 1, 0, none⟩) hs2).trans hx2) (Nat.lt_of_lt_of_le hs1 (below_size hbb)) (Nat.lt_of_lt_of_le hs2 (below_size hbb)) x⟩
  (by unfold impl_setOf.f; rw [impl_SetAdd.pv _ 40 0 _ #[]]; exact hq))
 clear g_ es hb2 hx0 hx1 hx2 hs0 hs1 hs2 hb hr0 hc0 hl
 cases b
 ·rw [if_neg (fun h => by simp at h)] at h
  obtain ⟨rfl, rfl⟩ := Prod.mk.inj (Option.some.inj h)
  clear h GG KU KW
  go_enter Tryd.func9, Tryd.ntmps9
  go_wp2_with (first | (go_at_call 20; refine (K0.out _ HBq.out).mono ?_; rintro e W1 ⟨rfl, HB⟩; replace HBq := Aside0.mk (below_step HBq.out HB); clear HB; have y0_1 : W1.cell? ⟨w.heap.size, 0, none⟩ = some (.slice A0 l0.length c0) := (HBq.out.cell (p := ⟨w.heap.size, 0, none⟩) HS0.out).trans HX0.out; have y1_1 : W1.cell? ⟨w.heap.size + 1, 0, none⟩ = some (.int .i64 a1) := (HBq.out.cell (p := ⟨w.heap.size + 1, 0, none⟩) HS1.out).trans HX1.out; have y2_1 : W1.cell? ⟨w.heap.size + 1 + 1, 0, none⟩ = some (.int .i64 a2) := (HBq.out.cell (p := ⟨w.heap.size + 1 + 1, 0, none⟩) HS2.out).trans HX2.out; clear K0) | (go_at_call 38; refine (KC.out _ HBq.out).mono ?_; rintro e W5 ⟨v1_, rfl, HR, HB⟩; have HRc := Aside0.mk (Kd.R_lower HR (below_size (below_step HB2.out HBq.out))); clear HR; replace HBq := Aside0.mk (below_step HBq.out HB); clear HB; have y0_5 : W5.cell? ⟨w.heap.size, 0, none⟩ = some (.slice A0 l0.length c0) := (HBq.out.cell (p := ⟨w.heap.size, 0, none⟩) HS0.out).trans HX0.out; have y1_5 : W5.cell? ⟨w.heap.size + 1, 0, none⟩ = some (.int .i64 a1) := (HBq.out.cell (p := ⟨w.heap.size + 1, 0, none⟩) HS1.out).trans HX1.out; have y2_5 : W5.cell? ⟨w.heap.size + 1 + 1, 0, none⟩ = some (.int .i64 a2) := (HBq.out.cell (p := ⟨w.heap.size + 1 + 1, 0, none⟩) HS2.out).trans HX2.out; clear KC))
  go_ret2
  exact ⟨_, rfl, HRc.out, below_step HB2.out HBq.out⟩
 by_cases hu : 1 ≤ a1 ∧ a1 ≤ 9999
 case neg =>
  rw [if_neg (fun h => hu h.2.1)] at h
  obtain ⟨rfl, rfl⟩ := Prod.mk.inj (Option.some.inj h)
  clear h GG KW
  rw [decide_eq_false hu] at KU
  clear hu
  go_enter Tryd.func9, Tryd.ntmps9
  go_wp2_with (first | (go_at_call 20; refine (K0.out _ HBq.out).mono ?_; rintro e W1 ⟨rfl, HB⟩; replace HBq := Aside0.mk (below_step HBq.out HB); clear HB; have y0_1 : W1.cell? ⟨w.heap.size, 0, none⟩ = some (.slice A0 l0.length c0) := (HBq.out.cell (p := ⟨w.heap.size, 0, none⟩) HS0.out).trans HX0.out; have y1_1 : W1.cell? ⟨w.heap.size + 1, 0, none⟩ = some (.int .i64 a1) := (HBq.out.cell (p := ⟨w.heap.size + 1, 0, none⟩) HS1.out).trans HX1.out; have y2_1 : W1.cell? ⟨w.heap.size + 1 + 1, 0, none⟩ = some (.int .i64 a2) := (HBq.out.cell (p := ⟨w.heap.size + 1 + 1, 0, none⟩) HS2.out).trans HX2.out; clear K0) | (go_at_call 36; refine (KU.out _).mono ?_; rintro e W2 ⟨rfl, HB⟩; replace HBq := Aside0.mk (below_step HBq.out HB); clear HB; have y0_2 : W2.cell? ⟨w.heap.size, 0, none⟩ = some (.slice A0 l0.length c0) := (HBq.out.cell (p := ⟨w.heap.size, 0, none⟩) HS0.out).trans HX0.out; have y1_2 : W2.cell? ⟨w.heap.size + 1, 0, none⟩ = some (.int .i64 a1) := (HBq.out.cell (p := ⟨w.heap.size + 1, 0, none⟩) HS1.out).trans HX1.out; have y2_2 : W2.cell? ⟨w.heap.size + 1 + 1, 0, none⟩ = some (.int .i64 a2) := (HBq.out.cell (p := ⟨w.heap.size + 1 + 1, 0, none⟩) HS2.out).trans HX2.out; clear KU) | (go_at_call 38; refine (KC.out _ HBq.out).mono ?_; rintro e W5 ⟨v1_, rfl, HR, HB⟩; have HRc := Aside0.mk (Kd.R_lower HR (below_size (below_step HB2.out HBq.out))); clear HR; replace HBq := Aside0.mk (below_step HBq.out HB); clear HB; have y0_5 : W5.cell? ⟨w.heap.size, 0, none⟩ = some (.slice A0 l0.length c0) := (HBq.out.cell (p := ⟨w.heap.size, 0, none⟩) HS0.out).trans HX0.out; have y1_5 : W5.cell? ⟨w.heap.size + 1, 0, none⟩ = some (.int .i64 a1) := (HBq.out.cell (p := ⟨w.heap.size + 1, 0, none⟩) HS1.out).trans HX1.out; have y2_5 : W5.cell? ⟨w.heap.size + 1 + 1, 0, none⟩ = some (.int .i64 a2) := (HBq.out.cell (p := ⟨w.heap.size + 1 + 1, 0, none⟩) HS2.out).trans HX2.out; clear KC))
  go_ret2
  exact ⟨_, rfl, HRc.out, below_step HB2.out HBq.out⟩
 rw [decide_eq_true hu] at KU
 by_cases hw : a1 ≤ a2 ∧ a2 ≤ 9999
 case neg =>
  rw [if_neg (fun h => hw h.2.2)] at h
  obtain ⟨rfl, rfl⟩ := Prod.mk.inj (Option.some.inj h)
  clear h GG
  rw [decide_eq_false hw] at KW
  clear hw hu
  go_enter Tryd.func9, Tryd.ntmps9
  go_wp2_with (first | (go_at_call 20; refine (K0.out _ HBq.out).mono ?_; rintro e W1 ⟨rfl, HB⟩; replace HBq := Aside0.mk (below_step HBq.out HB); clear HB; have y0_1 : W1.cell? ⟨w.heap.size, 0, none⟩ = some (.slice A0 l0.length c0) := (HBq.out.cell (p := ⟨w.heap.size, 0, none⟩) HS0.out).trans HX0.out; have y1_1 : W1.cell? ⟨w.heap.size + 1, 0, none⟩ = some (.int .i64 a1) := (HBq.out.cell (p := ⟨w.heap.size + 1, 0, none⟩) HS1.out).trans HX1.out; have y2_1 : W1.cell? ⟨w.heap.size + 1 + 1, 0, none⟩ = some (.int .i64 a2) := (HBq.out.cell (p := ⟨w.heap.size + 1 + 1, 0, none⟩) HS2.out).trans HX2.out; clear K0) | (go_at_call 36; refine (KU.out _).mono ?_; rintro e W2 ⟨rfl, HB⟩; replace HBq := Aside0.mk (below_step HBq.out HB); clear HB; have y0_2 : W2.cell? ⟨w.heap.size, 0, none⟩ = some (.slice A0 l0.length c0) := (HBq.out.cell (p := ⟨w.heap.size, 0, none⟩) HS0.out).trans HX0.out; have y1_2 : W2.cell? ⟨w.heap.size + 1, 0, none⟩ = some (.int .i64 a1) := (HBq.out.cell (p := ⟨w.heap.size + 1, 0, none⟩) HS1.out).trans HX1.out; have y2_2 : W2.cell? ⟨w.heap.size + 1 + 1, 0, none⟩ = some (.int .i64 a2) := (HBq.out.cell (p := ⟨w.heap.size + 1 + 1, 0, none⟩) HS2.out).trans HX2.out; clear KU) | (go_at_call 37; refine (KW.out _).mono ?_; rintro e W3 ⟨rfl, HB⟩; replace HBq := Aside0.mk (below_step HBq.out HB); clear HB; have y0_3 : W3.cell? ⟨w.heap.size, 0, none⟩ = some (.slice A0 l0.length c0) := (HBq.out.cell (p := ⟨w.heap.size, 0, none⟩) HS0.out).trans HX0.out; have y1_3 : W3.cell? ⟨w.heap.size + 1, 0, none⟩ = some (.int .i64 a1) := (HBq.out.cell (p := ⟨w.heap.size + 1, 0, none⟩) HS1.out).trans HX1.out; have y2_3 : W3.cell? ⟨w.heap.size + 1 + 1, 0, none⟩ = some (.int .i64 a2) := (HBq.out.cell (p := ⟨w.heap.size + 1 + 1, 0, none⟩) HS2.out).trans HX2.out; clear KW) | (go_at_call 38; refine (KC.out _ HBq.out).mono ?_; rintro e W5 ⟨v1_, rfl, HR, HB⟩; have HRc := Aside0.mk (Kd.R_lower HR (below_size (below_step HB2.out HBq.out))); clear HR; replace HBq := Aside0.mk (below_step HBq.out HB); clear HB; have y0_5 : W5.cell? ⟨w.heap.size, 0, none⟩ = some (.slice A0 l0.length c0) := (HBq.out.cell (p := ⟨w.heap.size, 0, none⟩) HS0.out).trans HX0.out; have y1_5 : W5.cell? ⟨w.heap.size + 1, 0, none⟩ = some (.int .i64 a1) := (HBq.out.cell (p := ⟨w.heap.size + 1, 0, none⟩) HS1.out).trans HX1.out; have y2_5 : W5.cell? ⟨w.heap.size + 1 + 1, 0, none⟩ = some (.int .i64 a2) := (HBq.out.cell (p := ⟨w.heap.size + 1 + 1, 0, none⟩) HS2.out).trans HX2.out; clear KC))
  go_ret2
  exact ⟨_, rfl, HRc.out, below_step HB2.out HBq.out⟩
 rw [decide_eq_true hw] at KW
 rw [if_pos ⟨rfl, hu, hw⟩] at h
 clear hu hw
 obtain ⟨⟨q1, q2⟩, hq, h⟩ := Option.bind_eq_some_iff.mp h
 dsimp only at h
 have GS := Aside0.mk (GG.out q1 q2 hq)
 clear GG hq
 cases q2
 ·rw [if_neg (by decide)] at h
  obtain ⟨rfl, rfl⟩ := Prod.mk.inj (Option.some.inj h)
  clear h
  go_enter Tryd.func9, Tryd.ntmps9
  go_wp2_with (first | (go_at_call 20; refine (K0.out _ HBq.out).mono ?_; rintro e W1 ⟨rfl, HB⟩; replace HBq := Aside0.mk (below_step HBq.out HB); clear HB; have y0_1 : W1.cell? ⟨w.heap.size, 0, none⟩ = some (.slice A0 l0.length c0) := (HBq.out.cell (p := ⟨w.heap.size, 0, none⟩) HS0.out).trans HX0.out; have y1_1 : W1.cell? ⟨w.heap.size + 1, 0, none⟩ = some (.int .i64 a1) := (HBq.out.cell (p := ⟨w.heap.size + 1, 0, none⟩) HS1.out).trans HX1.out; have y2_1 : W1.cell? ⟨w.heap.size + 1 + 1, 0, none⟩ = some (.int .i64 a2) := (HBq.out.cell (p := ⟨w.heap.size + 1 + 1, 0, none⟩) HS2.out).trans HX2.out; clear K0) | (go_at_call 36; refine (KU.out _).mono ?_; rintro e W2 ⟨rfl, HB⟩; replace HBq := Aside0.mk (below_step HBq.out HB); clear HB; have y0_2 : W2.cell? ⟨w.heap.size, 0, none⟩ = some (.slice A0 l0.length c0) := (HBq.out.cell (p := ⟨w.heap.size, 0, none⟩) HS0.out).trans HX0.out; have y1_2 : W2.cell? ⟨w.heap.size + 1, 0, none⟩ = some (.int .i64 a1) := (HBq.out.cell (p := ⟨w.heap.size + 1, 0, none⟩) HS1.out).trans HX1.out; have y2_2 : W2.cell? ⟨w.heap.size + 1 + 1, 0, none⟩ = some (.int .i64 a2) := (HBq.out.cell (p := ⟨w.heap.size + 1 + 1, 0, none⟩) HS2.out).trans HX2.out; clear KU) | (go_at_call 37; refine (KW.out _).mono ?_; rintro e W3 ⟨rfl, HB⟩; replace HBq := Aside0.mk (below_step HBq.out HB); clear HB; have y0_3 : W3.cell? ⟨w.heap.size, 0, none⟩ = some (.slice A0 l0.length c0) := (HBq.out.cell (p := ⟨w.heap.size, 0, none⟩) HS0.out).trans HX0.out; have y1_3 : W3.cell? ⟨w.heap.size + 1, 0, none⟩ = some (.int .i64 a1) := (HBq.out.cell (p := ⟨w.heap.size + 1, 0, none⟩) HS1.out).trans HX1.out; have y2_3 : W3.cell? ⟨w.heap.size + 1 + 1, 0, none⟩ = some (.int .i64 a2) := (HBq.out.cell (p := ⟨w.heap.size + 1 + 1, 0, none⟩) HS2.out).trans HX2.out; clear KW) | (go_at_call 39; refine (GS.out _ HBq.out).mono ?_; rintro e W4 ⟨v0_, rfl, HR, HB⟩; have HRs := Aside0.mk (Kd.R_lower HR (below_size (below_step HB2.out HBq.out))); clear HR; replace HBq := Aside0.mk (below_step HBq.out HB); clear HB; have y0_4 : W4.cell? ⟨w.heap.size, 0, none⟩ = some (.slice A0 l0.length c0) := (HBq.out.cell (p := ⟨w.heap.size, 0, none⟩) HS0.out).trans HX0.out; have y1_4 : W4.cell? ⟨w.heap.size + 1, 0, none⟩ = some (.int .i64 a1) := (HBq.out.cell (p := ⟨w.heap.size + 1, 0, none⟩) HS1.out).trans HX1.out; have y2_4 : W4.cell? ⟨w.heap.size + 1 + 1, 0, none⟩ = some (.int .i64 a2) := (HBq.out.cell (p := ⟨w.heap.size + 1 + 1, 0, none⟩) HS2.out).trans HX2.out; clear GS) | (go_at_call 38; refine (KC.out _ HBq.out).mono ?_; rintro e W5 ⟨v1_, rfl, HR, HB⟩; have HRc := Aside0.mk (Kd.R_lower HR (below_size (below_step HB2.out HBq.out))); clear HR; replace HBq := Aside0.mk (below_step HBq.out HB); clear HB; have y0_5 : W5.cell? ⟨w.heap.size, 0, none⟩ = some (.slice A0 l0.length c0) := (HBq.out.cell (p := ⟨w.heap.size, 0, none⟩) HS0.out).trans HX0.out; have y1_5 : W5.cell? ⟨w.heap.size + 1, 0, none⟩ = some (.int .i64 a1) := (HBq.out.cell (p := ⟨w.heap.size + 1, 0, none⟩) HS1.out).trans HX1.out; have y2_5 : W5.cell? ⟨w.heap.size + 1 + 1, 0, none⟩ = some (.int .i64 a2) := (HBq.out.cell (p := ⟨w.heap.size + 1 + 1, 0, none⟩) HS2.out).trans HX2.out; clear KC))
  go_ret2
  exact ⟨_, rfl, HRc.out, below_step HB2.out HBq.out⟩
 ·rw [if_pos rfl] at h
  obtain ⟨rfl, rfl⟩ := Prod.mk.inj (Option.some.inj h)
  clear h KC
  go_enter Tryd.func9, Tryd.ntmps9
  go_wp2_with (first | (go_at_call 20; refine (K0.out _ HBq.out).mono ?_; rintro e W1 ⟨rfl, HB⟩; replace HBq := Aside0.mk (below_step HBq.out HB); clear HB; have y0_1 : W1.cell? ⟨w.heap.size, 0, none⟩ = some (.slice A0 l0.length c0) := (HBq.out.cell (p := ⟨w.heap.size, 0, none⟩) HS0.out).trans HX0.out; have y1_1 : W1.cell? ⟨w.heap.size + 1, 0, none⟩ = some (.int .i64 a1) := (HBq.out.cell (p := ⟨w.heap.size + 1, 0, none⟩) HS1.out).trans HX1.out; have y2_1 : W1.cell? ⟨w.heap.size + 1 + 1, 0, none⟩ = some (.int .i64 a2) := (HBq.out.cell (p := ⟨w.heap.size + 1 + 1, 0, none⟩) HS2.out).trans HX2.out; clear K0) | (go_at_call 36; refine (KU.out _).mono ?_; rintro e W2 ⟨rfl, HB⟩; replace HBq := Aside0.mk (below_step HBq.out HB); clear HB; have y0_2 : W2.cell? ⟨w.heap.size, 0, none⟩ = some (.slice A0 l0.length c0) := (HBq.out.cell (p := ⟨w.heap.size, 0, none⟩) HS0.out).trans HX0.out; have y1_2 : W2.cell? ⟨w.heap.size + 1, 0, none⟩ = some (.int .i64 a1) := (HBq.out.cell (p := ⟨w.heap.size + 1, 0, none⟩) HS1.out).trans HX1.out; have y2_2 : W2.cell? ⟨w.heap.size + 1 + 1, 0, none⟩ = some (.int .i64 a2) := (HBq.out.cell (p := ⟨w.heap.size + 1 + 1, 0, none⟩) HS2.out).trans HX2.out; clear KU) | (go_at_call 37; refine (KW.out _).mono ?_; rintro e W3 ⟨rfl, HB⟩; replace HBq := Aside0.mk (below_step HBq.out HB); clear HB; have y0_3 : W3.cell? ⟨w.heap.size, 0, none⟩ = some (.slice A0 l0.length c0) := (HBq.out.cell (p := ⟨w.heap.size, 0, none⟩) HS0.out).trans HX0.out; have y1_3 : W3.cell? ⟨w.heap.size + 1, 0, none⟩ = some (.int .i64 a1) := (HBq.out.cell (p := ⟨w.heap.size + 1, 0, none⟩) HS1.out).trans HX1.out; have y2_3 : W3.cell? ⟨w.heap.size + 1 + 1, 0, none⟩ = some (.int .i64 a2) := (HBq.out.cell (p := ⟨w.heap.size + 1 + 1, 0, none⟩) HS2.out).trans HX2.out; clear KW) | (go_at_call 39; refine (GS.out _ HBq.out).mono ?_; rintro e W4 ⟨v0_, rfl, HR, HB⟩; have HRs := Aside0.mk (Kd.R_lower HR (below_size (below_step HB2.out HBq.out))); clear HR; replace HBq := Aside0.mk (below_step HBq.out HB); clear HB; have y0_4 : W4.cell? ⟨w.heap.size, 0, none⟩ = some (.slice A0 l0.length c0) := (HBq.out.cell (p := ⟨w.heap.size, 0, none⟩) HS0.out).trans HX0.out; have y1_4 : W4.cell? ⟨w.heap.size + 1, 0, none⟩ = some (.int .i64 a1) := (HBq.out.cell (p := ⟨w.heap.size + 1, 0, none⟩) HS1.out).trans HX1.out; have y2_4 : W4.cell? ⟨w.heap.size + 1 + 1, 0, none⟩ = some (.int .i64 a2) := (HBq.out.cell (p := ⟨w.heap.size + 1 + 1, 0, none⟩) HS2.out).trans HX2.out; clear GS))
  go_ret2
  exact ⟨_, rfl, HRs.out, below_step HB2.out HBq.out⟩


-- NOT PRINTED: function 43 (impl_SetDrop_1)

/-! ### impl_SetDrop: function 11, given by hand -/
 namespace impl_SetDrop
 section
 open Go.Proofs.YthngecooaddddaaDoor.Gen
 theorem impl_within_ev (a b c : Int) : impl_within.f a b c = some (decide (b ≤ a ∧ a ≤ c)) := by
  unfold impl_within.f
  by_cases h : a ≥ b
  ·rw [if_pos h]; congr 1; simp; omega
  ·rw [if_neg h]; congr 1; simp; omega
 
 /-- a range as a pair -/
 def pr (x : S40) : Int × Int := (x.f0, x.f1)
 theorem rd45_at (l : List S40) (i : Nat) (h : i < l.length) : rd_T40 l (i : Int) = l[i] := by
  unfold rd_T40
  rw [Int.toNat_natCast, List.getD_eq_getElem?_getD, List.getElem?_eq_getElem h]; rfl
 theorem impl_SetHas_l0 (l : List S40) (hl : l.length ≤ 1048576) (n : Int) : ∀ (d i : Nat), i + d = l.length → Ev (fun k => impl_SetHas.l0 k n l (l.length : Int) (i : Int)) (hasL ((l.drop i).map pr) n) := by
  intro d
  induction d with
  | zero =>
   intro i hi
   refine Ev.step (impl_SetHas.l0.eq_2 n l (l.length : Int) (i : Int)) (Ev.no (by omega) (Ev.const ?_))
   rw [List.drop_eq_nil_of_le (by omega)]; rfl
  | succ d ih =>
   intro i hi
   have hlt : i < l.length := by omega
   have e := rd45_at l i hlt
   refine Ev.step (impl_SetHas.l0.eq_2 n l (l.length : Int) (i : Int)) (Ev.yes (by omega) (Ev.yes (by omega) (Ev.yes (by omega) (Ev.bindc (impl_within_ev _ _ _) ?_))))
   rw [w64 (by omega) (by omega), List.drop_eq_getElem_cons hlt, ← e]
   generalize rd_T40 l (i : Int) = x
   have e2 : hasL ((x :: l.drop (i + 1)).map pr) n = (decide (x.f0 ≤ n ∧ n ≤ x.f1) || hasL ((l.drop (i + 1)).map pr) n) := rfl
   rw [e2]
   have := ih (i + 1) (by omega)
   refine Ev.ite (fun h => ?_) (fun h => ?_)
   ·rw [h]; exact Ev.now _
   ·rw [Bool.not_eq_true] at h
    rw [h, Bool.false_or]; exact this
 theorem impl_SetHas_ev (l : List S40) (hl : l.length ≤ 1048576) (n : Int) : Ev (fun k => impl_SetHas.f k l n) (hasL (l.map pr) n) := impl_SetHas_l0 l hl n l.length 0 (by omega)
 
 theorem pv (p : Int → Bool) (g g' : Nat) (lb lb' : Array Value) : ∀ k xs x, impl_setOf.l0 k ⟨p, g, lb⟩ xs x = impl_setOf.l0 k ⟨p, g', lb'⟩ xs x := by
  intro k
  induction k with
  | zero => intro xs x; rfl
  | succ k ih =>
   intro xs x
   simp only [impl_setOf.l0, PVcall.f, Option.bind_some, ih]
 theorem within_below (a b c : Int) (W : World) : Calls Tryd.prog 37 #[.int .i64 a, .int .i64 b, .int .i64 c] W fun e w' => e = .returned (.bool (decide (b ≤ a ∧ a ≤ c))) ∧ Below W.heap.size W w' := by
  refine (impl_within.calls a b c _ W (impl_within_ev a b c)).mono ?_
  rintro e w' ⟨rfl, m, rfl⟩
  exact ⟨rfl, pw_below_drewN (Below.refl _ _) m⟩
 def holds (l0 : List S40) (a1 a2 : Int) (n : Int) : Bool := hasL (l0.map pr) n && !decide (a1 ≤ n ∧ n ≤ a2)
 /-- the closure -/
 theorem closure (B0 B1 B2 : Nat) (A0 : Option Addr) (c0 : Nat) (l0 : List S40) (a1 a2 : Int) (w : World)
   (hr0 : Kd.C k40 w A0 l0.length l0) (hc0 : l0.length ≤ c0) (h0 : l0.length ≤ 1048576)
   (hx0 : w.cell? ⟨B0, 0, none⟩ = some (.slice A0 l0.length c0)) (hx1 : w.cell? ⟨B1, 0, none⟩ = some (.int .i64 a1)) (hx2 : w.cell? ⟨B2, 0, none⟩ = some (.int .i64 a2)) (hB1 : B1 < w.heap.size) (hB2 : B2 < w.heap.size) (n : Int) :
   Calls Tryd.prog 43 #[.int .i64 n, .pointer (some ⟨B0, 0, none⟩), .pointer (some ⟨B1, 0, none⟩), .pointer (some ⟨B2, 0, none⟩)] w fun e w' => e = .returned (.bool (holds l0 a1 a2 n)) ∧ Below w.heap.size w w' := by
  obtain ⟨k0, e0⟩ := Ev.rounds (impl_SetHas_ev l0 h0 n)
  have G0 := Aside0.mk (impl_SetHas.calls k0 A0 c0 l0 n _ w hr0 hc0 e0)
  have G1 := Aside0.mk (fun W : World => within_below n a1 a2 W)
  unfold holds
  generalize hasL (l0.map pr) n = b0 at G0 ⊢
  generalize decide (a1 ≤ n ∧ n ≤ a2) = b1 at G1 ⊢
  clear e0 hr0 h0 hc0
  go_enter Tryd.func43, Tryd.ntmps43
  cases b0
  ·go_wp2_with (first | (go_at_call 41; refine G0.out.mono ?_; rintro e W1 ⟨rfl, HB⟩; have hy1 : W1.cell? ⟨B1, 0, none⟩ = some (.int .i64 a1) := (HB.cell (p := ⟨B1, 0, none⟩) hB1).trans hx1; have hy2 : W1.cell? ⟨B2, 0, none⟩ = some (.int .i64 a2) := (HB.cell (p := ⟨B2, 0, none⟩) hB2).trans hx2; have HBa := Aside0.mk HB; clear HB G0))
   go_ret
   exact ⟨by simp, HBa.out⟩
  ·go_wp2_with (first | (go_at_call 41; refine G0.out.mono ?_; rintro e W1 ⟨rfl, HB⟩; have hy1 : W1.cell? ⟨B1, 0, none⟩ = some (.int .i64 a1) := (HB.cell (p := ⟨B1, 0, none⟩) hB1).trans hx1; have hy2 : W1.cell? ⟨B2, 0, none⟩ = some (.int .i64 a2) := (HB.cell (p := ⟨B2, 0, none⟩) hB2).trans hx2; have HBa := Aside0.mk HB; clear HB G0) | (go_at_call 37; refine (G1.out _).mono ?_; rintro e W2 ⟨rfl, HB⟩; have HBb := Aside0.mk (below_step HBa.out HB); clear HB G1))
   go_ret
   exact ⟨by simp, HBb.out⟩
 end
 end impl_SetDrop
def impl_SetDrop.f (k : Nat) (l0 : List S40) (a1 a2 : Int) : Option (List S40 × Bool) :=
 if l0.length ≤ 1048576 then
  (impl_SetOk.f k l0).bind fun b => if b = true ∧ (1 ≤ a1 ∧ a1 ≤ 9999) ∧ (a1 ≤ a2 ∧ a2 ≤ 9999) then (impl_setOf.f k ⟨impl_SetDrop.holds l0 a1 a2, 0, #[]⟩).bind fun q => if q.2 = true then some (q.1, true) else some (l0, false) else some (l0, false)
 else none
theorem impl_SetDrop.mono : ∀ a0 a1 a2 k, LeO (impl_SetDrop.f k a0 a1 a2) (impl_SetDrop.f (k + 1) a0 a1 a2) := by
 intro a0 a1 a2 k
 unfold impl_SetDrop.f
 exact LeO.ite (LeO.bind (impl_SetOk.mono _ _) (fun _ => LeO.ite (LeO.bind (impl_setOf.mono _ _) (fun _ => LeO.refl _)) (LeO.refl _))) (LeO.refl _)
theorem impl_SetDrop.calls (k : Nat) (A0 : Option Addr) (c0 : Nat) (l0 : List (S40)) (a1 : Int) (a2 : Int) (r1 : List (S40)) (r2 : Bool) (w : World) (hr0 : Kd.C k40 w A0 l0.length l0) (hc0 : l0.length ≤ c0) (h : impl_SetDrop.f k l0 a1 a2 = some (r1, r2)) :
  Calls Tryd.prog 11 #[.slice A0 l0.length c0, .int .i64 a1, .int .i64 a2] w fun e w' => ∃ v0_ : Value, e = .returned (.tuple #[v0_, .bool r2]) ∧ Kd.R k40 40 w' w.heap.size (fun _ => True) v0_ r1 ∧ Below w.heap.size w w' := by
 unfold impl_SetDrop.f at h
 by_cases hl : l0.length ≤ 1048576
 case neg => rw [if_neg hl] at h; cases h
 rw [if_pos hl] at h
 obtain ⟨b, hb, h⟩ := Option.bind_eq_some_iff.mp h
 have hb2 : Below w.heap.size w (((w.alloc (.cells #[.slice A0 l0.length c0] 24)).alloc (.cells #[.int .i64 a1] 3)).alloc (.cells #[.int .i64 a2] 3)) := below_alloc (below_alloc (below_alloc (Below.refl _ _) _) _) _
 have es : ((w.alloc (.cells #[.slice A0 l0.length c0] 24)).alloc (.cells #[.int .i64 a1] 3)).heap.size = w.heap.size + 1 + 1 := by simp
 have hx0 : (((w.alloc (.cells #[.slice A0 l0.length c0] 24)).alloc (.cells #[.int .i64 a1] 3)).alloc (.cells #[.int .i64 a2] 3)).cell? ⟨w.heap.size, 0, none⟩ = some (.slice A0 l0.length c0) := ((below_alloc (Below.refl ((w.alloc (.cells #[.slice A0 l0.length c0] 24)).alloc (.cells #[.int .i64 a1] 3)).heap.size ((w.alloc (.cells #[.slice A0 l0.length c0] 24)).alloc (.cells #[.int .i64 a1] 3))) (.cells #[.int .i64 a2] 3)).cell (p := ⟨w.heap.size, 0, none⟩) (by rw [es]; show w.heap.size < w.heap.size + 1 + 1; omega)).trans (by simp)
 have hx1 : (((w.alloc (.cells #[.slice A0 l0.length c0] 24)).alloc (.cells #[.int .i64 a1] 3)).alloc (.cells #[.int .i64 a2] 3)).cell? ⟨w.heap.size + 1, 0, none⟩ = some (.int .i64 a1) := ((below_alloc (Below.refl ((w.alloc (.cells #[.slice A0 l0.length c0] 24)).alloc (.cells #[.int .i64 a1] 3)).heap.size ((w.alloc (.cells #[.slice A0 l0.length c0] 24)).alloc (.cells #[.int .i64 a1] 3))) (.cells #[.int .i64 a2] 3)).cell (p := ⟨w.heap.size + 1, 0, none⟩) (by rw [es]; show w.heap.size + 1 < w.heap.size + 1 + 1; omega)).trans (by simp)
 have g_ : ∀ (W : World) (v : Value) (t : Nat), (W.alloc (.cells #[v] t)).cell? ⟨W.heap.size, 0, none⟩ = some v := by intro W v t; simp
 have hx2 : (((w.alloc (.cells #[.slice A0 l0.length c0] 24)).alloc (.cells #[.int .i64 a1] 3)).alloc (.cells #[.int .i64 a2] 3)).cell? ⟨w.heap.size + 1 + 1, 0, none⟩ = some (.int .i64 a2) := by
  have h_ := g_ ((w.alloc (.cells #[.slice A0 l0.length c0] 24)).alloc (.cells #[.int .i64 a1] 3)) (.int .i64 a2) 3
  rw [es] at h_; exact h_
 have hs0 : w.heap.size < (((w.alloc (.cells #[.slice A0 l0.length c0] 24)).alloc (.cells #[.int .i64 a1] 3)).alloc (.cells #[.int .i64 a2] 3)).heap.size := by simp <;> omega
 have hs1 : w.heap.size + 1 < (((w.alloc (.cells #[.slice A0 l0.length c0] 24)).alloc (.cells #[.int .i64 a1] 3)).alloc (.cells #[.int .i64 a2] 3)).heap.size := by simp <;> omega
 have hs2 : w.heap.size + 1 + 1 < (((w.alloc (.cells #[.slice A0 l0.length c0] 24)).alloc (.cells #[.int .i64 a1] 3)).alloc (.cells #[.int .i64 a2] 3)).heap.size := by simp <;> omega
 have HB2 := Aside0.mk hb2
 have HBq := Aside0.mk (Below.refl (((w.alloc (.cells #[.slice A0 l0.length c0] 24)).alloc (.cells #[.int .i64 a1] 3)).alloc (.cells #[.int .i64 a2] 3)).heap.size (((w.alloc (.cells #[.slice A0 l0.length c0] 24)).alloc (.cells #[.int .i64 a1] 3)).alloc (.cells #[.int .i64 a2] 3)))
 have HS0 := Aside0.mk hs0
 have HS1 := Aside0.mk hs1
 have HS2 := Aside0.mk hs2
 have HX0 := Aside0.mk hx0
 have HX1 := Aside0.mk hx1
 have HX2 := Aside0.mk hx2
 have K0 := Aside0.mk (fun (W : World) (hb_ : Below (((w.alloc (.cells #[.slice A0 l0.length c0] 24)).alloc (.cells #[.int .i64 a1] 3)).alloc (.cells #[.int .i64 a2] 3)).heap.size (((w.alloc (.cells #[.slice A0 l0.length c0] 24)).alloc (.cells #[.int .i64 a1] 3)).alloc (.cells #[.int .i64 a2] 3)) W) => impl_SetOk.calls k A0 c0 l0 b W (Kd.C_below hr0 (below_step hb2 hb_)) hc0 hb)
 have KU := Aside0.mk (fun (W : World) => show Calls Tryd.prog 36 #[.int .i64 a1] W fun e w' => e = .returned (.bool (decide (1 ≤ a1 ∧ a1 ≤ 9999))) ∧ Below W.heap.size W w' from
  (impl_isUid.calls a1 _ W (show impl_isUid.f a1 = some (decide (1 ≤ a1 ∧ a1 ≤ 9999)) by unfold impl_isUid.f; rw [impl_SetDrop.impl_within_ev]; rfl)).mono (by rintro e w' ⟨rfl, m, rfl⟩; exact ⟨rfl, pw_below_drewN (Below.refl _ _) m⟩))
 have KW := Aside0.mk (fun (W : World) => impl_SetDrop.within_below a2 a1 9999 W)
 have KC := Aside0.mk (fun (W : World) (hb_ : Below (((w.alloc (.cells #[.slice A0 l0.length c0] 24)).alloc (.cells #[.int .i64 a1] 3)).alloc (.cells #[.int .i64 a2] 3)).heap.size (((w.alloc (.cells #[.slice A0 l0.length c0] 24)).alloc (.cells #[.int .i64 a1] 3)).alloc (.cells #[.int .i64 a2] 3)) W) => impl_copyRanges.calls A0 c0 l0 l0 W (Kd.C_below hr0 (below_step hb2 hb_)) hc0 (by unfold impl_copyRanges.f; rw [Option.bind_some, if_pos (by simp; omega)]; rfl))
 have GG := Aside0.mk (fun (q1 : List S40) (q2 : Bool) (hq : impl_setOf.f k ⟨impl_SetDrop.holds l0 a1 a2, 0, #[]⟩ = some (q1, q2)) (W : World) (hbW : Below (((w.alloc (.cells #[.slice A0 l0.length c0] 24)).alloc (.cells #[.int .i64 a1] 3)).alloc (.cells #[.int .i64 a2] 3)).heap.size (((w.alloc (.cells #[.slice A0 l0.length c0] 24)).alloc (.cells #[.int .i64 a1] 3)).alloc (.cells #[.int .i64 a2] 3)) W) => impl_setOf.calls k ⟨impl_SetDrop.holds l0 a1 a2, 43, #[.pointer (some ⟨w.heap.size, 0, none⟩), .pointer (some ⟨w.heap.size + 1, 0, none⟩), .pointer (some ⟨w.heap.size + 1 + 1, 0, none⟩)]⟩ q1 q2 W
  ⟨enters_of Tryd.func43 (by kernel_rfl) rfl, fun W2 x hbx => by
   have hbb := below_step hbW hbx
   show Calls Tryd.prog 43 #[.int .i64 x, .pointer (some ⟨w.heap.size, 0, none⟩), .pointer (some ⟨w.heap.size + 1, 0, none⟩), .pointer (some ⟨w.heap.size + 1 + 1, 0, none⟩)] W2 _
   exact impl_SetDrop.closure _ _ _ A0 c0 l0 a1 a2 W2 (Kd.C_below hr0 (below_step hb2 hbb)) hc0 hl ((hbb.cell (p := ⟨w.heap.size, 0, none⟩) hs0).trans hx0) ((hbb.cell (p := ⟨w.heap.size + 1, 0, none⟩) hs1).trans hx1) ((hbb.cell (p := ⟨w.heap.size + 1 + 1, 0, none⟩) hs2).trans hx2) (Nat.lt_of_lt_of_le hs1 (below_size hbb)) (Nat.lt_of_lt_of_le hs2 (below_size hbb)) x⟩
  (by unfold impl_setOf.f; rw [impl_SetDrop.pv _ 43 0 _ #[]]; exact hq))
 clear g_ es hb2 hx0 hx1 hx2 hs0 hs1 hs2 hb hr0 hc0 hl
 cases b
 ·rw [if_neg (fun h => by simp at h)] at h
  obtain ⟨rfl, rfl⟩ := Prod.mk.inj (Option.some.inj h)
  clear h GG KU KW
  go_enter Tryd.func11, Tryd.ntmps11
  go_wp2_with (first | (go_at_call 20; refine (K0.out _ HBq.out).mono ?_; rintro e W1 ⟨rfl, HB⟩; replace HBq := Aside0.mk (below_step HBq.out HB); clear HB; have y0_1 : W1.cell? ⟨w.heap.size, 0, none⟩ = some (.slice A0 l0.length c0) := (HBq.out.cell (p := ⟨w.heap.size, 0, none⟩) HS0.out).trans HX0.out; have y1_1 : W1.cell? ⟨w.heap.size + 1, 0, none⟩ = some (.int .i64 a1) := (HBq.out.cell (p := ⟨w.heap.size + 1, 0, none⟩) HS1.out).trans HX1.out; have y2_1 : W1.cell? ⟨w.heap.size + 1 + 1, 0, none⟩ = some (.int .i64 a2) := (HBq.out.cell (p := ⟨w.heap.size + 1 + 1, 0, none⟩) HS2.out).trans HX2.out; clear K0) | (go_at_call 38; refine (KC.out _ HBq.out).mono ?_; rintro e W5 ⟨v1_, rfl, HR, HB⟩; have HRc := Aside0.mk (Kd.R_lower HR (below_size (below_step HB2.out HBq.out))); clear HR; replace HBq := Aside0.mk (below_step HBq.out HB); clear HB; have y0_5 : W5.cell? ⟨w.heap.size, 0, none⟩ = some (.slice A0 l0.length c0) := (HBq.out.cell (p := ⟨w.heap.size, 0, none⟩) HS0.out).trans HX0.out; have y1_5 : W5.cell? ⟨w.heap.size + 1, 0, none⟩ = some (.int .i64 a1) := (HBq.out.cell (p := ⟨w.heap.size + 1, 0, none⟩) HS1.out).trans HX1.out; have y2_5 : W5.cell? ⟨w.heap.size + 1 + 1, 0, none⟩ = some (.int .i64 a2) := (HBq.out.cell (p := ⟨w.heap.size + 1 + 1, 0, none⟩) HS2.out).trans HX2.out; clear KC))
  go_ret2
  exact ⟨_, rfl, HRc.out, below_step HB2.out HBq.out⟩
 by_cases hu : 1 ≤ a1 ∧ a1 ≤ 9999
 case neg =>
  rw [if_neg (fun h => hu h.2.1)] at h
  obtain ⟨rfl, rfl⟩ := Prod.mk.inj (Option.some.inj h)
  clear h GG KW
  rw [decide_eq_false hu] at KU
  clear hu
  go_enter Tryd.func11, Tryd.ntmps11
  go_wp2_with (first | (go_at_call 20; refine (K0.out _ HBq.out).mono ?_; rintro e W1 ⟨rfl, HB⟩; replace HBq := Aside0.mk (below_step HBq.out HB); clear HB; have y0_1 : W1.cell? ⟨w.heap.size, 0, none⟩ = some (.slice A0 l0.length c0) := (HBq.out.cell (p := ⟨w.heap.size, 0, none⟩) HS0.out).trans HX0.out; have y1_1 : W1.cell? ⟨w.heap.size + 1, 0, none⟩ = some (.int .i64 a1) := (HBq.out.cell (p := ⟨w.heap.size + 1, 0, none⟩) HS1.out).trans HX1.out; have y2_1 : W1.cell? ⟨w.heap.size + 1 + 1, 0, none⟩ = some (.int .i64 a2) := (HBq.out.cell (p := ⟨w.heap.size + 1 + 1, 0, none⟩) HS2.out).trans HX2.out; clear K0) | (go_at_call 36; refine (KU.out _).mono ?_; rintro e W2 ⟨rfl, HB⟩; replace HBq := Aside0.mk (below_step HBq.out HB); clear HB; have y0_2 : W2.cell? ⟨w.heap.size, 0, none⟩ = some (.slice A0 l0.length c0) := (HBq.out.cell (p := ⟨w.heap.size, 0, none⟩) HS0.out).trans HX0.out; have y1_2 : W2.cell? ⟨w.heap.size + 1, 0, none⟩ = some (.int .i64 a1) := (HBq.out.cell (p := ⟨w.heap.size + 1, 0, none⟩) HS1.out).trans HX1.out; have y2_2 : W2.cell? ⟨w.heap.size + 1 + 1, 0, none⟩ = some (.int .i64 a2) := (HBq.out.cell (p := ⟨w.heap.size + 1 + 1, 0, none⟩) HS2.out).trans HX2.out; clear KU) | (go_at_call 38; refine (KC.out _ HBq.out).mono ?_; rintro e W5 ⟨v1_, rfl, HR, HB⟩; have HRc := Aside0.mk (Kd.R_lower HR (below_size (below_step HB2.out HBq.out))); clear HR; replace HBq := Aside0.mk (below_step HBq.out HB); clear HB; have y0_5 : W5.cell? ⟨w.heap.size, 0, none⟩ = some (.slice A0 l0.length c0) := (HBq.out.cell (p := ⟨w.heap.size, 0, none⟩) HS0.out).trans HX0.out; have y1_5 : W5.cell? ⟨w.heap.size + 1, 0, none⟩ = some (.int .i64 a1) := (HBq.out.cell (p := ⟨w.heap.size + 1, 0, none⟩) HS1.out).trans HX1.out; have y2_5 : W5.cell? ⟨w.heap.size + 1 + 1, 0, none⟩ = some (.int .i64 a2) := (HBq.out.cell (p := ⟨w.heap.size + 1 + 1, 0, none⟩) HS2.out).trans HX2.out; clear KC))
  go_ret2
  exact ⟨_, rfl, HRc.out, below_step HB2.out HBq.out⟩
 rw [decide_eq_true hu] at KU
 by_cases hw : a1 ≤ a2 ∧ a2 ≤ 9999
 case neg =>
  rw [if_neg (fun h => hw h.2.2)] at h
  obtain ⟨rfl, rfl⟩ := Prod.mk.inj (Option.some.inj h)
  clear h GG
  rw [decide_eq_false hw] at KW
  clear hw hu
  go_enter Tryd.func11, Tryd.ntmps11
  go_wp2_with (first | (go_at_call 20; refine (K0.out _ HBq.out).mono ?_; rintro e W1 ⟨rfl, HB⟩; replace HBq := Aside0.mk (below_step HBq.out HB); clear HB; have y0_1 : W1.cell? ⟨w.heap.size, 0, none⟩ = some (.slice A0 l0.length c0) := (HBq.out.cell (p := ⟨w.heap.size, 0, none⟩) HS0.out).trans HX0.out; have y1_1 : W1.cell? ⟨w.heap.size + 1, 0, none⟩ = some (.int .i64 a1) := (HBq.out.cell (p := ⟨w.heap.size + 1, 0, none⟩) HS1.out).trans HX1.out; have y2_1 : W1.cell? ⟨w.heap.size + 1 + 1, 0, none⟩ = some (.int .i64 a2) := (HBq.out.cell (p := ⟨w.heap.size + 1 + 1, 0, none⟩) HS2.out).trans HX2.out; clear K0) | (go_at_call 36; refine (KU.out _).mono ?_; rintro e W2 ⟨rfl, HB⟩; replace HBq := Aside0.mk (below_step HBq.out HB); clear HB; have y0_2 : W2.cell? ⟨w.heap.size, 0, none⟩ = some (.slice A0 l0.length c0) := (HBq.out.cell (p := ⟨w.heap.size, 0, none⟩) HS0.out).trans HX0.out; have y1_2 : W2.cell? ⟨w.heap.size + 1, 0, none⟩ = some (.int .i64 a1) := (HBq.out.cell (p := ⟨w.heap.size + 1, 0, none⟩) HS1.out).trans HX1.out; have y2_2 : W2.cell? ⟨w.heap.size + 1 + 1, 0, none⟩ = some (.int .i64 a2) := (HBq.out.cell (p := ⟨w.heap.size + 1 + 1, 0, none⟩) HS2.out).trans HX2.out; clear KU) | (go_at_call 37; refine (KW.out _).mono ?_; rintro e W3 ⟨rfl, HB⟩; replace HBq := Aside0.mk (below_step HBq.out HB); clear HB; have y0_3 : W3.cell? ⟨w.heap.size, 0, none⟩ = some (.slice A0 l0.length c0) := (HBq.out.cell (p := ⟨w.heap.size, 0, none⟩) HS0.out).trans HX0.out; have y1_3 : W3.cell? ⟨w.heap.size + 1, 0, none⟩ = some (.int .i64 a1) := (HBq.out.cell (p := ⟨w.heap.size + 1, 0, none⟩) HS1.out).trans HX1.out; have y2_3 : W3.cell? ⟨w.heap.size + 1 + 1, 0, none⟩ = some (.int .i64 a2) := (HBq.out.cell (p := ⟨w.heap.size + 1 + 1, 0, none⟩) HS2.out).trans HX2.out; clear KW) | (go_at_call 38; refine (KC.out _ HBq.out).mono ?_; rintro e W5 ⟨v1_, rfl, HR, HB⟩; have HRc := Aside0.mk (Kd.R_lower HR (below_size (below_step HB2.out HBq.out))); clear HR; replace HBq := Aside0.mk (below_step HBq.out HB); clear HB; have y0_5 : W5.cell? ⟨w.heap.size, 0, none⟩ = some (.slice A0 l0.length c0) := (HBq.out.cell (p := ⟨w.heap.size, 0, none⟩) HS0.out).trans HX0.out; have y1_5 : W5.cell? ⟨w.heap.size + 1, 0, none⟩ = some (.int .i64 a1) := (HBq.out.cell (p := ⟨w.heap.size + 1, 0, none⟩) HS1.out).trans HX1.out; have y2_5 : W5.cell? ⟨w.heap.size + 1 + 1, 0, none⟩ = some (.int .i64 a2) := (HBq.out.cell (p := ⟨w.heap.size + 1 + 1, 0, none⟩) HS2.out).trans HX2.out; clear KC))
  go_ret2
  exact ⟨_, rfl, HRc.out, below_step HB2.out HBq.out⟩
 rw [decide_eq_true hw] at KW
 rw [if_pos ⟨rfl, hu, hw⟩] at h
 clear hu hw
 obtain ⟨⟨q1, q2⟩, hq, h⟩ := Option.bind_eq_some_iff.mp h
 dsimp only at h
 have GS := Aside0.mk (GG.out q1 q2 hq)
 clear GG hq
 cases q2
 ·rw [if_neg (by decide)] at h
  obtain ⟨rfl, rfl⟩ := Prod.mk.inj (Option.some.inj h)
  clear h
  go_enter Tryd.func11, Tryd.ntmps11
  go_wp2_with (first | (go_at_call 20; refine (K0.out _ HBq.out).mono ?_; rintro e W1 ⟨rfl, HB⟩; replace HBq := Aside0.mk (below_step HBq.out HB); clear HB; have y0_1 : W1.cell? ⟨w.heap.size, 0, none⟩ = some (.slice A0 l0.length c0) := (HBq.out.cell (p := ⟨w.heap.size, 0, none⟩) HS0.out).trans HX0.out; have y1_1 : W1.cell? ⟨w.heap.size + 1, 0, none⟩ = some (.int .i64 a1) := (HBq.out.cell (p := ⟨w.heap.size + 1, 0, none⟩) HS1.out).trans HX1.out; have y2_1 : W1.cell? ⟨w.heap.size + 1 + 1, 0, none⟩ = some (.int .i64 a2) := (HBq.out.cell (p := ⟨w.heap.size + 1 + 1, 0, none⟩) HS2.out).trans HX2.out; clear K0) | (go_at_call 36; refine (KU.out _).mono ?_; rintro e W2 ⟨rfl, HB⟩; replace HBq := Aside0.mk (below_step HBq.out HB); clear HB; have y0_2 : W2.cell? ⟨w.heap.size, 0, none⟩ = some (.slice A0 l0.length c0) := (HBq.out.cell (p := ⟨w.heap.size, 0, none⟩) HS0.out).trans HX0.out; have y1_2 : W2.cell? ⟨w.heap.size + 1, 0, none⟩ = some (.int .i64 a1) := (HBq.out.cell (p := ⟨w.heap.size + 1, 0, none⟩) HS1.out).trans HX1.out; have y2_2 : W2.cell? ⟨w.heap.size + 1 + 1, 0, none⟩ = some (.int .i64 a2) := (HBq.out.cell (p := ⟨w.heap.size + 1 + 1, 0, none⟩) HS2.out).trans HX2.out; clear KU) | (go_at_call 37; refine (KW.out _).mono ?_; rintro e W3 ⟨rfl, HB⟩; replace HBq := Aside0.mk (below_step HBq.out HB); clear HB; have y0_3 : W3.cell? ⟨w.heap.size, 0, none⟩ = some (.slice A0 l0.length c0) := (HBq.out.cell (p := ⟨w.heap.size, 0, none⟩) HS0.out).trans HX0.out; have y1_3 : W3.cell? ⟨w.heap.size + 1, 0, none⟩ = some (.int .i64 a1) := (HBq.out.cell (p := ⟨w.heap.size + 1, 0, none⟩) HS1.out).trans HX1.out; have y2_3 : W3.cell? ⟨w.heap.size + 1 + 1, 0, none⟩ = some (.int .i64 a2) := (HBq.out.cell (p := ⟨w.heap.size + 1 + 1, 0, none⟩) HS2.out).trans HX2.out; clear KW) | (go_at_call 39; refine (GS.out _ HBq.out).mono ?_; rintro e W4 ⟨v0_, rfl, HR, HB⟩; have HRs := Aside0.mk (Kd.R_lower HR (below_size (below_step HB2.out HBq.out))); clear HR; replace HBq := Aside0.mk (below_step HBq.out HB); clear HB; have y0_4 : W4.cell? ⟨w.heap.size, 0, none⟩ = some (.slice A0 l0.length c0) := (HBq.out.cell (p := ⟨w.heap.size, 0, none⟩) HS0.out).trans HX0.out; have y1_4 : W4.cell? ⟨w.heap.size + 1, 0, none⟩ = some (.int .i64 a1) := (HBq.out.cell (p := ⟨w.heap.size + 1, 0, none⟩) HS1.out).trans HX1.out; have y2_4 : W4.cell? ⟨w.heap.size + 1 + 1, 0, none⟩ = some (.int .i64 a2) := (HBq.out.cell (p := ⟨w.heap.size + 1 + 1, 0, none⟩) HS2.out).trans HX2.out; clear GS) | (go_at_call 38; refine (KC.out _ HBq.out).mono ?_; rintro e W5 ⟨v1_, rfl, HR, HB⟩; have HRc := Aside0.mk (Kd.R_lower HR (below_size (below_step HB2.out HBq.out))); clear HR; replace HBq := Aside0.mk (below_step HBq.out HB); clear HB; have y0_5 : W5.cell? ⟨w.heap.size, 0, none⟩ = some (.slice A0 l0.length c0) := (HBq.out.cell (p := ⟨w.heap.size, 0, none⟩) HS0.out).trans HX0.out; have y1_5 : W5.cell? ⟨w.heap.size + 1, 0, none⟩ = some (.int .i64 a1) := (HBq.out.cell (p := ⟨w.heap.size + 1, 0, none⟩) HS1.out).trans HX1.out; have y2_5 : W5.cell? ⟨w.heap.size + 1 + 1, 0, none⟩ = some (.int .i64 a2) := (HBq.out.cell (p := ⟨w.heap.size + 1 + 1, 0, none⟩) HS2.out).trans HX2.out; clear KC))
  go_ret2
  exact ⟨_, rfl, HRc.out, below_step HB2.out HBq.out⟩
 ·rw [if_pos rfl] at h
  obtain ⟨rfl, rfl⟩ := Prod.mk.inj (Option.some.inj h)
  clear h KC
  go_enter Tryd.func11, Tryd.ntmps11
  go_wp2_with (first | (go_at_call 20; refine (K0.out _ HBq.out).mono ?_; rintro e W1 ⟨rfl, HB⟩; replace HBq := Aside0.mk (below_step HBq.out HB); clear HB; have y0_1 : W1.cell? ⟨w.heap.size, 0, none⟩ = some (.slice A0 l0.length c0) := (HBq.out.cell (p := ⟨w.heap.size, 0, none⟩) HS0.out).trans HX0.out; have y1_1 : W1.cell? ⟨w.heap.size + 1, 0, none⟩ = some (.int .i64 a1) := (HBq.out.cell (p := ⟨w.heap.size + 1, 0, none⟩) HS1.out).trans HX1.out; have y2_1 : W1.cell? ⟨w.heap.size + 1 + 1, 0, none⟩ = some (.int .i64 a2) := (HBq.out.cell (p := ⟨w.heap.size + 1 + 1, 0, none⟩) HS2.out).trans HX2.out; clear K0) | (go_at_call 36; refine (KU.out _).mono ?_; rintro e W2 ⟨rfl, HB⟩; replace HBq := Aside0.mk (below_step HBq.out HB); clear HB; have y0_2 : W2.cell? ⟨w.heap.size, 0, none⟩ = some (.slice A0 l0.length c0) := (HBq.out.cell (p := ⟨w.heap.size, 0, none⟩) HS0.out).trans HX0.out; have y1_2 : W2.cell? ⟨w.heap.size + 1, 0, none⟩ = some (.int .i64 a1) := (HBq.out.cell (p := ⟨w.heap.size + 1, 0, none⟩) HS1.out).trans HX1.out; have y2_2 : W2.cell? ⟨w.heap.size + 1 + 1, 0, none⟩ = some (.int .i64 a2) := (HBq.out.cell (p := ⟨w.heap.size + 1 + 1, 0, none⟩) HS2.out).trans HX2.out; clear KU) | (go_at_call 37; refine (KW.out _).mono ?_; rintro e W3 ⟨rfl, HB⟩; replace HBq := Aside0.mk (below_step HBq.out HB); clear HB; have y0_3 : W3.cell? ⟨w.heap.size, 0, none⟩ = some (.slice A0 l0.length c0) := (HBq.out.cell (p := ⟨w.heap.size, 0, none⟩) HS0.out).trans HX0.out; have y1_3 : W3.cell? ⟨w.heap.size + 1, 0, none⟩ = some (.int .i64 a1) := (HBq.out.cell (p := ⟨w.heap.size + 1, 0, none⟩) HS1.out).trans HX1.out; have y2_3 : W3.cell? ⟨w.heap.size + 1 + 1, 0, none⟩ = some (.int .i64 a2) := (HBq.out.cell (p := ⟨w.heap.size + 1 + 1, 0, none⟩) HS2.out).trans HX2.out; clear KW) | (go_at_call 39; refine (GS.out _ HBq.out).mono ?_; rintro e W4 ⟨v0_, rfl, HR, HB⟩; have HRs := Aside0.mk (Kd.R_lower HR (below_size (below_step HB2.out HBq.out))); clear HR; replace HBq := Aside0.mk (below_step HBq.out HB); clear HB; have y0_4 : W4.cell? ⟨w.heap.size, 0, none⟩ = some (.slice A0 l0.length c0) := (HBq.out.cell (p := ⟨w.heap.size, 0, none⟩) HS0.out).trans HX0.out; have y1_4 : W4.cell? ⟨w.heap.size + 1, 0, none⟩ = some (.int .i64 a1) := (HBq.out.cell (p := ⟨w.heap.size + 1, 0, none⟩) HS1.out).trans HX1.out; have y2_4 : W4.cell? ⟨w.heap.size + 1 + 1, 0, none⟩ = some (.int .i64 a2) := (HBq.out.cell (p := ⟨w.heap.size + 1 + 1, 0, none⟩) HS2.out).trans HX2.out; clear GS))
  go_ret2
  exact ⟨_, rfl, HRs.out, below_step HB2.out HBq.out⟩


/-! ### spec_SetDrop: function 12 -/
def spec_SetDrop.f (k : Nat) (l0 : List (S40)) (a1 : Int) (a2 : Int) : Option ((List (S40)) × Bool) := (spec_l05Put.f k l0 a1 a2 false).bind fun bt299 => (some (bt299.1, bt299.2))
theorem spec_SetDrop.mono : ∀ a0 a1 a2 k, LeO (spec_SetDrop.f k a0 a1 a2) (spec_SetDrop.f (k + 1) a0 a1 a2) := by
 intro a0 a1 a2 k
 unfold spec_SetDrop.f
 repeat' first
   | (with_reducible exact spec_l05Put.mono _ _ _ _ _)
   | (with_reducible exact LeO.refl _)
   | (with_reducible exact LeO.none _)
   | (with_reducible refine LeO.ite ?_ ?_)
   | (with_reducible refine LeO.bind ?_ (fun _ => ?_))
   | exact spec_l05Put.mono _ _ _ _ _
   | exact LeO.none _
   | refine LeO.ite ?_ ?_
   | refine LeO.bind ?_ (fun _ => ?_)
set_option maxHeartbeats 8000000 in
set_option maxRecDepth 100000 in
theorem spec_SetDrop.calls (k : Nat) (A0 : Option Addr) (c0 : Nat) (l0 : List (S40)) (a1 : Int) (a2 : Int) (r1 : List (S40)) (r2 : Bool) (w : World) (hr0 : Kd.C k40 w A0 l0.length l0) (hc0 : l0.length ≤ c0) (h : spec_SetDrop.f k l0 a1 a2 = some (r1, r2)) :
  Calls Tryd.prog 12 #[.slice A0 l0.length c0, .int .i64 a1, .int .i64 a2] w fun e w' => ∃ v0_ : Value, e = .returned (.tuple #[v0_, .bool r2]) ∧ Kd.R k40 40 w' w.heap.size (fun _ => True) v0_ r1 ∧ Below w.heap.size w w' := by
 have HR0 := Aside0.mk hr0
 have HC0 := Aside0.mk hc0
 clear hr0 hc0
 have HB := Aside0.mk (Below.refl w.heap.size w)
 have H : ((spec_l05Put.f k l0 a1 a2 false).bind fun bt299 => (some (bt299.1, bt299.2))) = some (r1, r2) := h
 clear h
 replace H := Option.bind_eq_some_iff.mp H
 obtain ⟨⟨t299, t300⟩, A40, H⟩ := H
 replace H : (some (t299, t300)) = some (r1, r2) := H
 have A4 := Aside0.mk A40
 clear A40
 simp only [Option.some.injEq, Prod.mk.injEq] at H
 obtain ⟨rfl, rfl⟩ := H
 go_enter Tryd.func12, Tryd.ntmps12
 go_wp2_with (first | ((with_reducible refine gate_callee (f := 42) rfl ?_); refine zG (some 11) Tryd.func42 #[.slice A0 l0.length c0, .int .i64 a1, .int .i64 a2, .bool false] ?_; (with_reducible refine (spec_l05Put.calls k _ _ l0 a1 a2 false t299 t300 _ ?side1 ?side2 A4.out).mono ?_); (case side1 => exact zI HR0.out); (case side2 => exact HC0.out); rintro e w5 ⟨v301, rfl, ho0, hb⟩; refine ⟨_, rfl, ?_⟩; have HO302 := Aside0.mk (Kd.R_lower ho0 (below_size (zw HB))); replace HB := zs HB hb; clear ho0 hb))
 go_ret2
 exact ⟨_, ze, zo HO302.out, zw HB⟩

/-! ### spec_DrawSetJoin: function 13 -/
def spec_DrawSetJoin.f (k : Nat) (l0 : List Int) : Option ((List (S40)) × (List (S40))) := (spec_l01New.f k l0).bind fun bt303 => ((spec_l05Any.f k bt303.1 bt303.2.1 bt303.2.2).bind fun bt307 => ((spec_l05Any.f k bt303.1 bt307.2.1 bt307.2.2).bind fun bt312 => (some (bt307.1, bt312.1))))
theorem spec_DrawSetJoin.mono : ∀ a0 k, LeO (spec_DrawSetJoin.f k a0) (spec_DrawSetJoin.f (k + 1) a0) := by
 intro a0 k
 unfold spec_DrawSetJoin.f
 repeat' first
   | (with_reducible exact spec_l01New.mono _ _)
   | (with_reducible exact spec_l05Any.mono _ _ _ _)
   | (with_reducible exact LeO.refl _)
   | (with_reducible exact LeO.none _)
   | (with_reducible refine LeO.ite ?_ ?_)
   | (with_reducible refine LeO.bind ?_ (fun _ => ?_))
   | exact spec_l01New.mono _ _
   | exact spec_l05Any.mono _ _ _ _
   | exact LeO.none _
   | refine LeO.ite ?_ ?_
   | refine LeO.bind ?_ (fun _ => ?_)
set_option maxHeartbeats 8000000 in
set_option maxRecDepth 100000 in
theorem spec_DrawSetJoin.calls (k : Nat) (A0 : Option Addr) (c0 : Nat) (l0 : List Int) (r1 : List (S40)) (r2 : List (S40)) (w : World) (hr0 : Kd.C (Kd.int .u8) w A0 l0.length l0) (hc0 : l0.length ≤ c0) (h : spec_DrawSetJoin.f k l0 = some (r1, r2)) :
  Calls Tryd.prog 13 #[.slice A0 l0.length c0] w fun e w' => ∃ v0_ v1_ : Value, e = .returned (.tuple #[v0_, v1_]) ∧ Kd.R k40 40 w' w.heap.size (fun k_ => some k_ ≠ (v1_ : Value).ownBlock) v0_ r1 ∧ Kd.R k40 40 w' w.heap.size (fun k_ => some k_ ≠ (v0_ : Value).ownBlock) v1_ r2 ∧ Below w.heap.size w w' := by
 have HR0 := Aside0.mk hr0
 have HC0 := Aside0.mk hc0
 clear hr0 hc0
 have HB := Aside0.mk (Below.refl w.heap.size w)
 have H : ((spec_l01New.f k l0).bind fun bt303 => ((spec_l05Any.f k bt303.1 bt303.2.1 bt303.2.2).bind fun bt307 => ((spec_l05Any.f k bt303.1 bt307.2.1 bt307.2.2).bind fun bt312 => (some (bt307.1, bt312.1))))) = some (r1, r2) := h
 clear h
 replace H := Option.bind_eq_some_iff.mp H
 obtain ⟨⟨t303, t304, t305⟩, A20, H⟩ := H
 replace H : ((spec_l05Any.f k t303 t304 t305).bind fun bt307 => ((spec_l05Any.f k t303 bt307.2.1 bt307.2.2).bind fun bt312 => (some (bt307.1, bt312.1)))) = some (r1, r2) := H
 have A2 := Aside0.mk A20
 clear A20
 replace H := Option.bind_eq_some_iff.mp H
 obtain ⟨⟨t307, t310, t311⟩, A30, H⟩ := H
 replace H : ((spec_l05Any.f k t303 t310 t311).bind fun bt312 => (some (t307, bt312.1))) = some (r1, r2) := H
 have A3 := Aside0.mk A30
 clear A30
 replace H := Option.bind_eq_some_iff.mp H
 obtain ⟨⟨t312, t315, t316⟩, A40, H⟩ := H
 replace H : (some (t307, t312)) = some (r1, r2) := H
 have A4 := Aside0.mk A40
 clear A40
 simp only [Option.some.injEq, Prod.mk.injEq] at H
 obtain ⟨rfl, rfl⟩ := H
 go_enter Tryd.func13, Tryd.ntmps13
 go_wp2_with (first | ((with_reducible refine gate_callee (f := 32) rfl ?_); refine zG (some 6) Tryd.func32 #[.slice A0 l0.length c0] ?_; (with_reducible refine (spec_l01New.calls k _ _ l0 t303 t304 t305 w _ ?side1 ?side2 ?side3 A2.out).mono ?_); (case side1 => exact zw HB); (case side2 => exact HR0.out); (case side3 => exact HC0.out); rintro e w5 ⟨g306, rfl, hi, hb, hb2⟩; refine ⟨_, rfl, ?_⟩; replace HB := Aside0.mk (hb); have HI306 := Aside0.mk (hi); clear hi hb hb2) | ((with_reducible refine gate_callee (f := 35) rfl ?_); refine zG (some 8) Tryd.func35 #[.pointer (some ⟨g306, 0, none⟩)] ?_; (with_reducible refine (spec_l05Any.calls k g306 t303 t304 t305 t307 t310 t311 w _ ?side1 ?side2 A3.out).mono ?_); (case side1 => exact yI HI306); (case side2 => exact yw HB); rintro e w6 ⟨v308, rfl, ho0, hi, hb, hk⟩; refine ⟨_, rfl, ?_⟩; have HO309 := Aside0.mk (Kd.R_lower ho0 (below_size (yw HB))); replace HB := Aside0.mk (hb); replace HI306 := Aside0.mk (hi); clear ho0 hi hb hk) | ((with_reducible refine gate_callee (f := 35) rfl ?_); refine zG (some 10) Tryd.func35 #[.pointer (some ⟨g306, 0, none⟩)] ?_; (with_reducible refine (spec_l05Any.calls k g306 t303 t310 t311 t312 t315 t316 w _ ?side1 ?side2 A4.out).mono ?_); (case side1 => exact yI HI306); (case side2 => exact yw HB); rintro e w7 ⟨v313, rfl, ho0, hi, hb, hk⟩; refine ⟨_, rfl, ?_⟩; have HO314 := Aside0.mk (Kd.R_lower (Kd.R_new' ho0 (Kd.R_lt (zo HO309.out))) (below_size (yw HB))); replace HO309 := Aside0.mk (Kd.R_mono (Kd.R_told (Kd.R_oldK (IsS78.apart (show IsS78 w _ g306 t303 t310 t311 from yI HI306) (zo HO309.out) (by decide)) hk) (Kd.R_base ho0)) (fun _ h_ => h_.1)); replace HB := Aside0.mk (hb); replace HI306 := Aside0.mk (hi); clear ho0 hi hb hk))
 go_ret2
 exact ⟨_, _, ze, zo (Kd.R_mono HO309.out (fun _ hk => hk.2)), zo (Kd.R_mono HO314.out (fun _ hk => hk.2)), yw HB⟩

-- NOT PRINTED: function 44 (impl_SetJoin_1)

/-! ### impl_SetJoin: function 14, given by hand -/
 namespace impl_SetJoin
 section
 open Go.Proofs.YthngecooaddddaaDoor.Gen
 theorem impl_within_ev (a b c : Int) : impl_within.f a b c = some (decide (b ≤ a ∧ a ≤ c)) := by
  unfold impl_within.f
  by_cases h : a ≥ b
  ·rw [if_pos h]; congr 1; simp; omega
  ·rw [if_neg h]; congr 1; simp; omega
 
 /-- a range as a pair -/
 def pr (x : S40) : Int × Int := (x.f0, x.f1)
 theorem rd45_at (l : List S40) (i : Nat) (h : i < l.length) : rd_T40 l (i : Int) = l[i] := by
  unfold rd_T40
  rw [Int.toNat_natCast, List.getD_eq_getElem?_getD, List.getElem?_eq_getElem h]; rfl
 theorem impl_SetHas_l0 (l : List S40) (hl : l.length ≤ 1048576) (n : Int) : ∀ (d i : Nat), i + d = l.length → Ev (fun k => impl_SetHas.l0 k n l (l.length : Int) (i : Int)) (hasL ((l.drop i).map pr) n) := by
  intro d
  induction d with
  | zero =>
   intro i hi
   refine Ev.step (impl_SetHas.l0.eq_2 n l (l.length : Int) (i : Int)) (Ev.no (by omega) (Ev.const ?_))
   rw [List.drop_eq_nil_of_le (by omega)]; rfl
  | succ d ih =>
   intro i hi
   have hlt : i < l.length := by omega
   have e := rd45_at l i hlt
   refine Ev.step (impl_SetHas.l0.eq_2 n l (l.length : Int) (i : Int)) (Ev.yes (by omega) (Ev.yes (by omega) (Ev.yes (by omega) (Ev.bindc (impl_within_ev _ _ _) ?_))))
   rw [w64 (by omega) (by omega), List.drop_eq_getElem_cons hlt, ← e]
   generalize rd_T40 l (i : Int) = x
   have e2 : hasL ((x :: l.drop (i + 1)).map pr) n = (decide (x.f0 ≤ n ∧ n ≤ x.f1) || hasL ((l.drop (i + 1)).map pr) n) := rfl
   rw [e2]
   have := ih (i + 1) (by omega)
   refine Ev.ite (fun h => ?_) (fun h => ?_)
   ·rw [h]; exact Ev.now _
   ·rw [Bool.not_eq_true] at h
    rw [h, Bool.false_or]; exact this
 theorem impl_SetHas_ev (l : List S40) (hl : l.length ≤ 1048576) (n : Int) : Ev (fun k => impl_SetHas.f k l n) (hasL (l.map pr) n) := impl_SetHas_l0 l hl n l.length 0 (by omega)
 
 theorem pv (p : Int → Bool) (g g' : Nat) (lb lb' : Array Value) : ∀ k xs x, impl_setOf.l0 k ⟨p, g, lb⟩ xs x = impl_setOf.l0 k ⟨p, g', lb'⟩ xs x := by
  intro k
  induction k with
  | zero => intro xs x; rfl
  | succ k ih =>
   intro xs x
   simp only [impl_setOf.l0, PVcall.f, Option.bind_some, ih]
 def holds (l0 l1 : List S40) (n : Int) : Bool := hasL (l0.map pr) n || hasL (l1.map pr) n
 /-- the closure -/
 theorem closure (B0 B1 : Nat) (A0 : Option Addr) (c0 : Nat) (l0 : List S40) (A1 : Option Addr) (c1 : Nat) (l1 : List S40) (w : World)
   (hr0 : Kd.C k40 w A0 l0.length l0) (hc0 : l0.length ≤ c0) (hr1 : Kd.C k40 w A1 l1.length l1) (hc1 : l1.length ≤ c1) (h0 : l0.length ≤ 1048576) (h1 : l1.length ≤ 1048576)
   (hx0 : w.cell? ⟨B0, 0, none⟩ = some (.slice A0 l0.length c0)) (hx1 : w.cell? ⟨B1, 0, none⟩ = some (.slice A1 l1.length c1)) (hB1 : B1 < w.heap.size) (n : Int) :
   Calls Tryd.prog 44 #[.int .i64 n, .pointer (some ⟨B0, 0, none⟩), .pointer (some ⟨B1, 0, none⟩)] w fun e w' => e = .returned (.bool (holds l0 l1 n)) ∧ Below w.heap.size w w' := by
  obtain ⟨k0, e0⟩ := Ev.rounds (impl_SetHas_ev l0 h0 n)
  obtain ⟨k1, e1⟩ := Ev.rounds (impl_SetHas_ev l1 h1 n)
  have G0 := Aside0.mk (impl_SetHas.calls k0 A0 c0 l0 n _ w hr0 hc0 e0)
  have G1 := Aside0.mk (fun (W : World) (hb : Below w.heap.size w W) => impl_SetHas.calls k1 A1 c1 l1 n _ W (Kd.C_below hr1 hb) hc1 e1)
  unfold holds
  generalize hasL (l0.map pr) n = b0 at G0 ⊢
  generalize hasL (l1.map pr) n = b1 at G1 ⊢
  clear e0 e1 hr0 hr1 h0 h1 hc0 hc1
  go_enter Tryd.func44, Tryd.ntmps44
  cases b0
  ·go_wp2_with (first | (go_at_call 41; refine G0.out.mono ?_; rintro e W1 ⟨rfl, HB⟩; have hy1 : W1.cell? ⟨B1, 0, none⟩ = some (.slice A1 l1.length c1) := (HB.cell (p := ⟨B1, 0, none⟩) hB1).trans hx1; have K1 := Aside0.mk (G1.out W1 HB); have HBa := Aside0.mk HB; clear HB G0 G1) | (go_at_call 41; refine K1.out.mono ?_; rintro e W2 ⟨rfl, HB2⟩; have HBb := Aside0.mk (below_step HBa.out HB2); clear HB2 K1))
   go_ret
   exact ⟨by simp, HBb.out⟩
  ·go_wp2_with (first | (go_at_call 41; refine G0.out.mono ?_; rintro e W1 ⟨rfl, HB⟩; have hy1 : W1.cell? ⟨B1, 0, none⟩ = some (.slice A1 l1.length c1) := (HB.cell (p := ⟨B1, 0, none⟩) hB1).trans hx1; have K1 := Aside0.mk (G1.out W1 HB); have HBa := Aside0.mk HB; clear HB G0 G1))
   go_ret
   exact ⟨by simp, HBa.out⟩
 end
 end impl_SetJoin
def impl_SetJoin.f (k : Nat) (l0 l1 : List S40) : Option (List S40 × Bool) :=
 if l0.length ≤ 1048576 ∧ l1.length ≤ 1048576 then
  (impl_setOf.f k ⟨impl_SetJoin.holds l0 l1, 0, #[]⟩).bind fun q => if q.2 = true then (impl_SetOk.f k l0).bind fun b => if b = true then (impl_SetOk.f k l1).bind fun c => if c = true then some (q.1, true) else some ([], false) else some ([], false) else some ([], false)
 else none
theorem impl_SetJoin.mono : ∀ a0 a1 k, LeO (impl_SetJoin.f k a0 a1) (impl_SetJoin.f (k + 1) a0 a1) := by
 intro a0 a1 k
 unfold impl_SetJoin.f
 exact LeO.ite (LeO.bind (impl_setOf.mono _ _) (fun _ => LeO.ite (LeO.bind (impl_SetOk.mono _ _) (fun _ => LeO.ite (LeO.bind (impl_SetOk.mono _ _) (fun _ => LeO.refl _)) (LeO.refl _))) (LeO.refl _))) (LeO.refl _)
theorem impl_SetJoin.calls (k : Nat) (A0 : Option Addr) (c0 : Nat) (l0 : List (S40)) (A1 : Option Addr) (c1 : Nat) (l1 : List (S40)) (r1 : List (S40)) (r2 : Bool) (w : World) (hr0 : Kd.C k40 w A0 l0.length l0) (hc0 : l0.length ≤ c0) (hr1 : Kd.C k40 w A1 l1.length l1) (hc1 : l1.length ≤ c1) (h : impl_SetJoin.f k l0 l1 = some (r1, r2)) :
  Calls Tryd.prog 14 #[.slice A0 l0.length c0, .slice A1 l1.length c1] w fun e w' => ∃ v0_ : Value, e = .returned (.tuple #[v0_, .bool r2]) ∧ Kd.R k40 40 w' w.heap.size (fun _ => True) v0_ r1 ∧ Below w.heap.size w w' := by
 unfold impl_SetJoin.f at h
 by_cases hl : l0.length ≤ 1048576 ∧ l1.length ≤ 1048576
 case neg => rw [if_neg hl] at h; cases h
 rw [if_pos hl] at h
 obtain ⟨⟨q1, q2⟩, hq, h⟩ := Option.bind_eq_some_iff.mp h
 dsimp only at h
 have hb1 : Below w.heap.size w (w.alloc (.cells #[.slice A0 l0.length c0] 24)) := below_alloc (Below.refl _ _) _
 have hb2 : Below w.heap.size w ((w.alloc (.cells #[.slice A0 l0.length c0] 24)).alloc (.cells #[.slice A1 l1.length c1] 24)) := below_alloc hb1 _
 have hx0 : ((w.alloc (.cells #[.slice A0 l0.length c0] 24)).alloc (.cells #[.slice A1 l1.length c1] 24)).cell? ⟨w.heap.size, 0, none⟩ = some (.slice A0 l0.length c0) := by simp
 have hx1 : ((w.alloc (.cells #[.slice A0 l0.length c0] 24)).alloc (.cells #[.slice A1 l1.length c1] 24)).cell? ⟨w.heap.size + 1, 0, none⟩ = some (.slice A1 l1.length c1) := by simp
 have hs0 : w.heap.size < ((w.alloc (.cells #[.slice A0 l0.length c0] 24)).alloc (.cells #[.slice A1 l1.length c1] 24)).heap.size := by simp; omega
 have hs1 : w.heap.size + 1 < ((w.alloc (.cells #[.slice A0 l0.length c0] 24)).alloc (.cells #[.slice A1 l1.length c1] 24)).heap.size := by simp
 have hpv : PredOk ((w.alloc (.cells #[.slice A0 l0.length c0] 24)).alloc (.cells #[.slice A1 l1.length c1] 24)) ⟨impl_SetJoin.holds l0 l1, 44, #[.pointer (some ⟨w.heap.size, 0, none⟩), .pointer (some ⟨w.heap.size + 1, 0, none⟩)]⟩ :=
  ⟨enters_of Tryd.func44 (by kernel_rfl) rfl, fun W x hb => by
   show Calls Tryd.prog 44 #[.int .i64 x, .pointer (some ⟨w.heap.size, 0, none⟩), .pointer (some ⟨w.heap.size + 1, 0, none⟩)] W _
   exact impl_SetJoin.closure _ _ A0 c0 l0 A1 c1 l1 W (Kd.C_below hr0 (below_step hb2 hb)) hc0 (Kd.C_below hr1 (below_step hb2 hb)) hc1 hl.1 hl.2 ((hb.cell (p := ⟨w.heap.size, 0, none⟩) hs0).trans hx0) ((hb.cell (p := ⟨w.heap.size + 1, 0, none⟩) hs1).trans hx1) (Nat.lt_of_lt_of_le hs1 (below_size hb)) x⟩
 have GS := Aside0.mk (impl_setOf.calls k ⟨impl_SetJoin.holds l0 l1, 44, #[.pointer (some ⟨w.heap.size, 0, none⟩), .pointer (some ⟨w.heap.size + 1, 0, none⟩)]⟩ q1 q2 ((w.alloc (.cells #[.slice A0 l0.length c0] 24)).alloc (.cells #[.slice A1 l1.length c1] 24)) hpv (by unfold impl_setOf.f; rw [impl_SetJoin.pv _ 44 0 _ #[]]; exact hq))
 have HB2 := Aside0.mk hb2
 have HS0 := Aside0.mk hs0
 have HS1 := Aside0.mk hs1
 have HX0 := Aside0.mk hx0
 have HX1 := Aside0.mk hx1
 have L0 := Aside0.mk (fun (b : Bool) (e : impl_SetOk.f k l0 = some b) (W : World) (hb : Below w.heap.size w W) => impl_SetOk.calls k A0 c0 l0 b W (Kd.C_below hr0 hb) hc0 e)
 have L1 := Aside0.mk (fun (b : Bool) (e : impl_SetOk.f k l1 = some b) (W : World) (hb : Below w.heap.size w W) => impl_SetOk.calls k A1 c1 l1 b W (Kd.C_below hr1 hb) hc1 e)
 clear hpv hs0 hs1 hb1 hb2 hx0 hx1 hr0 hr1 hq hc0 hc1 hl
 cases q2
 ·rw [if_neg (by decide)] at h
  obtain ⟨rfl, rfl⟩ := Prod.mk.inj (Option.some.inj h)
  clear h L0 L1
  go_enter Tryd.func14, Tryd.ntmps14
  go_wp2_with (first | (go_at_call 39; refine GS.out.mono ?_; rintro e W1 ⟨v0_, rfl, HR, HB⟩; have hy0 : W1.cell? ⟨w.heap.size, 0, none⟩ = some (.slice A0 l0.length c0) := (HB.cell (p := ⟨w.heap.size, 0, none⟩) HS0.out).trans HX0.out; have HY1 := Aside0.mk ((HB.cell (p := ⟨w.heap.size + 1, 0, none⟩) HS1.out).trans HX1.out : W1.cell? ⟨w.heap.size + 1, 0, none⟩ = some (.slice A1 l1.length c1)); have HRa := Aside0.mk (Kd.R_lower HR (below_size HB2.out)); have HBa := Aside0.mk (below_step HB2.out HB); have HBc := Aside0.mk HB; clear HR HB GS))
  go_ret2
  exact ⟨_, rfl, Kd.R_nil _ _ _ _ _, HBa.out⟩
 rw [if_pos rfl] at h
 obtain ⟨b, hb, h⟩ := Option.bind_eq_some_iff.mp h
 have K0 := Aside0.mk (L0.out b hb)
 clear L0 hb
 cases b
 ·rw [if_neg (by decide)] at h
  obtain ⟨rfl, rfl⟩ := Prod.mk.inj (Option.some.inj h)
  clear h L1
  go_enter Tryd.func14, Tryd.ntmps14
  go_wp2_with (first | (go_at_call 39; refine GS.out.mono ?_; rintro e W1 ⟨v0_, rfl, HR, HB⟩; have hy0 : W1.cell? ⟨w.heap.size, 0, none⟩ = some (.slice A0 l0.length c0) := (HB.cell (p := ⟨w.heap.size, 0, none⟩) HS0.out).trans HX0.out; have HY1 := Aside0.mk ((HB.cell (p := ⟨w.heap.size + 1, 0, none⟩) HS1.out).trans HX1.out : W1.cell? ⟨w.heap.size + 1, 0, none⟩ = some (.slice A1 l1.length c1)); have HRa := Aside0.mk (Kd.R_lower HR (below_size HB2.out)); have HBa := Aside0.mk (below_step HB2.out HB); have HBc := Aside0.mk HB; clear HR HB GS) | (go_at_call 20; refine (K0.out _ HBa.out).mono ?_; rintro e W2 ⟨rfl, HB⟩; have hz1 : W2.cell? ⟨w.heap.size + 1, 0, none⟩ = some (.slice A1 l1.length c1) := (HB.cell (p := ⟨w.heap.size + 1, 0, none⟩) (Nat.lt_of_lt_of_le HS1.out (below_size HBc.out))).trans HY1.out; have HRb := Aside0.mk (Kd.R_below HRa.out HB); have HBb := Aside0.mk (below_step HBa.out HB); clear HB K0))
  go_ret2
  exact ⟨_, rfl, Kd.R_nil _ _ _ _ _, HBb.out⟩
 rw [if_pos rfl] at h
 obtain ⟨c, hc, h⟩ := Option.bind_eq_some_iff.mp h
 have K1 := Aside0.mk (L1.out c hc)
 clear L1 hc
 cases c
 ·rw [if_neg (by decide)] at h
  obtain ⟨rfl, rfl⟩ := Prod.mk.inj (Option.some.inj h)
  clear h
  go_enter Tryd.func14, Tryd.ntmps14
  go_wp2_with (first | (go_at_call 39; refine GS.out.mono ?_; rintro e W1 ⟨v0_, rfl, HR, HB⟩; have hy0 : W1.cell? ⟨w.heap.size, 0, none⟩ = some (.slice A0 l0.length c0) := (HB.cell (p := ⟨w.heap.size, 0, none⟩) HS0.out).trans HX0.out; have HY1 := Aside0.mk ((HB.cell (p := ⟨w.heap.size + 1, 0, none⟩) HS1.out).trans HX1.out : W1.cell? ⟨w.heap.size + 1, 0, none⟩ = some (.slice A1 l1.length c1)); have HRa := Aside0.mk (Kd.R_lower HR (below_size HB2.out)); have HBa := Aside0.mk (below_step HB2.out HB); have HBc := Aside0.mk HB; clear HR HB GS) | (go_at_call 20; refine (K0.out _ HBa.out).mono ?_; rintro e W2 ⟨rfl, HB⟩; have hz1 : W2.cell? ⟨w.heap.size + 1, 0, none⟩ = some (.slice A1 l1.length c1) := (HB.cell (p := ⟨w.heap.size + 1, 0, none⟩) (Nat.lt_of_lt_of_le HS1.out (below_size HBc.out))).trans HY1.out; have HRb := Aside0.mk (Kd.R_below HRa.out HB); have HBb := Aside0.mk (below_step HBa.out HB); clear HB K0) | (go_at_call 20; refine (K1.out _ HBb.out).mono ?_; rintro e W3 ⟨rfl, HB⟩; have HRc := Aside0.mk (Kd.R_below HRb.out HB); have HBd := Aside0.mk (below_step HBb.out HB); clear HB K1))
  go_ret2
  exact ⟨_, rfl, Kd.R_nil _ _ _ _ _, HBd.out⟩
 ·rw [if_pos rfl] at h
  obtain ⟨rfl, rfl⟩ := Prod.mk.inj (Option.some.inj h)
  clear h
  go_enter Tryd.func14, Tryd.ntmps14
  go_wp2_with (first | (go_at_call 39; refine GS.out.mono ?_; rintro e W1 ⟨v0_, rfl, HR, HB⟩; have hy0 : W1.cell? ⟨w.heap.size, 0, none⟩ = some (.slice A0 l0.length c0) := (HB.cell (p := ⟨w.heap.size, 0, none⟩) HS0.out).trans HX0.out; have HY1 := Aside0.mk ((HB.cell (p := ⟨w.heap.size + 1, 0, none⟩) HS1.out).trans HX1.out : W1.cell? ⟨w.heap.size + 1, 0, none⟩ = some (.slice A1 l1.length c1)); have HRa := Aside0.mk (Kd.R_lower HR (below_size HB2.out)); have HBa := Aside0.mk (below_step HB2.out HB); have HBc := Aside0.mk HB; clear HR HB GS) | (go_at_call 20; refine (K0.out _ HBa.out).mono ?_; rintro e W2 ⟨rfl, HB⟩; have hz1 : W2.cell? ⟨w.heap.size + 1, 0, none⟩ = some (.slice A1 l1.length c1) := (HB.cell (p := ⟨w.heap.size + 1, 0, none⟩) (Nat.lt_of_lt_of_le HS1.out (below_size HBc.out))).trans HY1.out; have HRb := Aside0.mk (Kd.R_below HRa.out HB); have HBb := Aside0.mk (below_step HBa.out HB); clear HB K0) | (go_at_call 20; refine (K1.out _ HBb.out).mono ?_; rintro e W3 ⟨rfl, HB⟩; have HRc := Aside0.mk (Kd.R_below HRb.out HB); have HBd := Aside0.mk (below_step HBb.out HB); clear HB K1))
  go_ret2
  exact ⟨_, rfl, HRc.out, HBd.out⟩


end Go.Proofs.YthngecooaddddaaDoor.PFnSetsTold
