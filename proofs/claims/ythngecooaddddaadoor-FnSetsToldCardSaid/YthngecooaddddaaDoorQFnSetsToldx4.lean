import Derived.Test.YthngecooaddddaaDoorQFnSetsToldx0
import Derived.Test.YthngecooaddddaaDoorQFnSetsToldx2
import Derived.Test.YthngecooaddddaaDoorQFnSetsToldx3
namespace Go.Proofs.YthngecooaddddaaDoor.PFnSetsTold
open Go.RowKit Go.Proofs.YthngecooaddddaaDoorW.PrintWords Go.Proofs.YthngecooaddddaaDoorW.PrintLast Go.Proofs.YthngecooaddddaaDoorW.PrintMore
attribute [local go_sem] max2_int min2_int max_two min_two max_three min_three max_four min_four   -- for this text's walks alone
set_option linter.unusedVariables false
set_option linter.unusedSimpArgs false

/-! ### spec_l05Set: function 54 -/
def spec_l05Set.l0 : Nat → List Bool → List (S40) → Int → Option ((List (S40)) × Bool)
 | 0, _, _, _ => none
 | k + 1, x0, x4, x5 => if x5 ≤ 9999 then (if 0 ≤ x5 then (if x5 < (x0.length : Int) then (if rdOf false x0 x5 = true then (if 0 ≤ (wrap64 (x5 - 1)) then (if (wrap64 (x5 - 1)) < (x0.length : Int) then (if (rdOf false x0 (wrap64 (x5 - 1)) = true) then (if 0 ≤ (wrap64 ((x4.length : Int) - 1)) then (if (wrap64 ((x4.length : Int) - 1)) < (x4.length : Int) then (spec_l05Set.l0 k x0 (x4.set ((wrap64 ((x4.length : Int) - 1)) : Int).toNat (⟨(rd_T40 x4 (wrap64 ((x4.length : Int) - 1))).f0, x5⟩ : S40)) (wrap64 (x5 + 1))) else (none)) else (none)) else (if x4.length < 8796093022208 then ((some (x4 ++ [(⟨x5, 0⟩ : S40)] : List (S40))).bind fun y143 => (if 0 ≤ (wrap64 ((y143.length : Int) - 1)) then (if (wrap64 ((y143.length : Int) - 1)) < (y143.length : Int) then (spec_l05Set.l0 k x0 (y143.set ((wrap64 ((y143.length : Int) - 1)) : Int).toNat (⟨(rd_T40 y143 (wrap64 ((y143.length : Int) - 1))).f0, x5⟩ : S40)) (wrap64 (x5 + 1))) else (none)) else (none))) else (none))) else (none)) else (none)) else (spec_l05Set.l0 k x0 x4 (wrap64 (x5 + 1)))) else (none)) else (none)) else ((spec_SetOk.f k x4).bind fun t136 => (if t136 = true then (some (x4, true)) else (some ((([] : List (S40))), false))))
def spec_l05Set.f (k : Nat) (l0 : List Bool) : Option ((List (S40)) × Bool) := spec_l05Set.l0 k l0 (([] : List (S40))) 1
theorem spec_l05Set.mono_l : ∀ k, (∀ y0 y1 y2, LeO (spec_l05Set.l0 k y0 y1 y2) (spec_l05Set.l0 (k + 1) y0 y1 y2))
 | 0 => fun _ _ _ r h => by simp [spec_l05Set.l0] at h
 | k + 1 => by
  have ih0 := spec_l05Set.mono_l k
  ·intro y0 y1 y2
   unfold spec_l05Set.l0
   repeat' first
   | (with_reducible exact ih0 _ _ _)
   | (with_reducible exact spec_SetOk.mono _ _)
   | (with_reducible exact LeO.refl _)
   | (with_reducible exact LeO.none _)
   | (with_reducible refine LeO.ite ?_ ?_)
   | (with_reducible refine LeO.bind ?_ (fun _ => ?_))
   | exact ih0 _ _ _
   | exact spec_SetOk.mono _ _
   | exact LeO.none _
   | refine LeO.ite ?_ ?_
   | refine LeO.bind ?_ (fun _ => ?_)
theorem spec_l05Set.mono : ∀ a0 k, LeO (spec_l05Set.f k a0) (spec_l05Set.f (k + 1) a0) := by
 intro a0 k
 have ih0 := spec_l05Set.mono_l k
 unfold spec_l05Set.f
 repeat' first
   | (with_reducible exact ih0 _ _ _)
   | (with_reducible exact spec_SetOk.mono _ _)
   | (with_reducible exact LeO.refl _)
   | (with_reducible exact LeO.none _)
   | (with_reducible refine LeO.ite ?_ ?_)
   | (with_reducible refine LeO.bind ?_ (fun _ => ?_))
   | exact ih0 _ _ _
   | exact spec_SetOk.mono _ _
   | exact LeO.none _
   | refine LeO.ite ?_ ?_
   | refine LeO.bind ?_ (fun _ => ?_)
set_option maxHeartbeats 8000000 in
set_option maxRecDepth 100000 in
theorem spec_l05Set.calls (k : Nat) (A0 : Option Addr) (c0 : Nat) (l0 : List Bool) (r1 : List (S40)) (r2 : Bool) (w : World) (hr0 : Kd.C Kd.bool w A0 l0.length l0) (hc0 : l0.length ≤ c0) (h : spec_l05Set.f k l0 = some (r1, r2)) :
  Calls Tryd.prog 54 #[.slice A0 l0.length c0] w fun e w' => ∃ v0_ : Value, e = .returned (.tuple #[v0_, .bool r2]) ∧ Kd.R k40 40 w' w.heap.size (fun _ => True) v0_ r1 ∧ Below w.heap.size w w' := by
 have hu40 := Tryd.underlying40
 have HR0 := Aside0.mk hr0
 have HC0 := Aside0.mk hc0
 clear hr0 hc0
 have HB := Aside0.mk (Below.refl w.heap.size w)
 have H : (spec_l05Set.l0 k l0 (([] : List (S40))) 1) = some (r1, r2) := h
 clear h
 obtain ⟨y133, hy133⟩ : ∃ y_ : List (S40), y_ = (([] : List (S40))) := ⟨_, rfl⟩
 replace H : (spec_l05Set.l0 k l0 y133 1) = some (r1, r2) := by first | (rw [hy133]; with_reducible exact H) | (have H2_ := (Option.bind_some _ _).symm.trans H; rw [hy133]; with_reducible exact H2_) | (have H2_ := (Option.bind_some _ _).symm.trans H; with_reducible exact H2_) | with_reducible exact H | (rw [hy133]; exact H) | exact H
 have Ny133 := Aside0.mk hy133
 clear hy133
 have H' := Aside0.mk H
 clear H
 go_enter Tryd.func54, Tryd.ntmps54
 go_wp2_with (first | ((with_reducible refine gate_dst (N := 6) rfl ?_); refine Kd.R_lit k40 _ 40 ?hg (N := 6) ?hd (xs := ([] : List (S40))) (inner := []) (ok := fun _ => True) (okp := fun _ => True) ?hr ?hp (fun _ hk => hk) trivial (Below.refl _ _) (Nat.le_refl _) (by simp) ?_; (case hd => rfl); (case hg => rfl); (case hr => first | (go_simp; done) | (go_simp; rfl)); (case hp => exact (Reps.none _ _)); intro v134 w2 ho3 hb hg_ hnew_; clear hg_ hnew_; (first | rw [← Ny133.out] at ho3 | (simp only [Int.reduceToNat] at ho3; rw [← Ny133.out] at ho3)); have HO135 := Aside0.mk (Kd.R_lower ho3 (below_size (zw HB))); replace HB := zs HB hb; clear hb ho3))
 go_loopg [4, 5] k (fun kq v4 v5 w' => ∃ (x4_1 : List (S40)) (x5_1 : Int), v5 = .int .i64 x5_1 ∧ Aside0 (spec_l05Set.l0 kq l0 x4_1 x5_1 = some (r1, r2)) ∧ Aside0 (kq ≤ k) ∧ Aside0 (Kd.R k40 40 w' w.heap.size (fun _ => True) v4 x4_1) ∧ Aside0 (Below w.heap.size w w'))
 case atStart => exact ⟨(y133), (1), zf, H', ⟨Nat.le_refl _⟩, ⟨zo HO135.out⟩, ⟨zw HB⟩⟩
 case round =>
  clear H'
  try clear p2
  obtain ⟨x4_1, x5_1, rfl, HA, HK1, HO_4, HB⟩ := hrel
  cases gk with
  | zero => exact absurd HA.out (by simp [spec_l05Set.l0])
  | succ k1 =>
   have H := HA.out
   clear HA
   simp only [spec_l05Set.l0] at H
   by_cases c4 : x5_1 ≤ 9999
   ·rw [if_pos c4] at H
    have c4b0 : decide (x5_1 ≤ 9999) = true := decide_eq_true c4
    clear c4
    by_cases c5 : 0 ≤ x5_1
    ·rw [if_pos c5] at H
     have c5b0 : decide (0 ≤ x5_1) = true := decide_eq_true c5
     clear c5
     by_cases c6 : x5_1 < (l0.length : Int)
     ·rw [if_pos c6] at H
      have c6b0 : decide (x5_1 < (l0.length : Int)) = true := decide_eq_true c6
      clear c6
      obtain ⟨bq7, hbq7⟩ : ∃ b_ : Bool, b_ = (rdOf false l0 x5_1) := ⟨_, rfl⟩
      replace H : (if bq7 = true then (if 0 ≤ (wrap64 (x5_1 - 1)) then (if (wrap64 (x5_1 - 1)) < (l0.length : Int) then (if (rdOf false l0 (wrap64 (x5_1 - 1)) = true) then (if 0 ≤ (wrap64 ((x4_1.length : Int) - 1)) then (if (wrap64 ((x4_1.length : Int) - 1)) < (x4_1.length : Int) then (spec_l05Set.l0 k1 l0 (x4_1.set ((wrap64 ((x4_1.length : Int) - 1)) : Int).toNat (⟨(rd_T40 x4_1 (wrap64 ((x4_1.length : Int) - 1))).f0, x5_1⟩ : S40)) (wrap64 (x5_1 + 1))) else (none)) else (none)) else (if x4_1.length < 8796093022208 then ((some (x4_1 ++ [(⟨x5_1, 0⟩ : S40)] : List (S40))).bind fun y143 => (if 0 ≤ (wrap64 ((y143.length : Int) - 1)) then (if (wrap64 ((y143.length : Int) - 1)) < (y143.length : Int) then (spec_l05Set.l0 k1 l0 (y143.set ((wrap64 ((y143.length : Int) - 1)) : Int).toNat (⟨(rd_T40 y143 (wrap64 ((y143.length : Int) - 1))).f0, x5_1⟩ : S40)) (wrap64 (x5_1 + 1))) else (none)) else (none))) else (none))) else (none)) else (none)) else (spec_l05Set.l0 k1 l0 x4_1 (wrap64 (x5_1 + 1)))) = some (r1, r2) := by rw [← hbq7] at H; exact H
      have Nbq7 := Aside0.mk hbq7
      clear hbq7
      by_cases c8 : bq7 = true
      ·subst c8
       rw [if_pos rfl] at H
       obtain ⟨ji9, hji9⟩ : ∃ j_ : Int, (wrap64 (x5_1 - 1)) = j_ := ⟨_, rfl⟩
       replace H : (if 0 ≤ (ji9) then (if (ji9) < (l0.length : Int) then (if (rdOf false l0 (ji9) = true) then (if 0 ≤ (wrap64 ((x4_1.length : Int) - 1)) then (if (wrap64 ((x4_1.length : Int) - 1)) < (x4_1.length : Int) then (spec_l05Set.l0 k1 l0 (x4_1.set ((wrap64 ((x4_1.length : Int) - 1)) : Int).toNat (⟨(rd_T40 x4_1 (wrap64 ((x4_1.length : Int) - 1))).f0, x5_1⟩ : S40)) (wrap64 (x5_1 + 1))) else (none)) else (none)) else (if x4_1.length < 8796093022208 then ((some (x4_1 ++ [(⟨x5_1, 0⟩ : S40)] : List (S40))).bind fun y143 => (if 0 ≤ (wrap64 ((y143.length : Int) - 1)) then (if (wrap64 ((y143.length : Int) - 1)) < (y143.length : Int) then (spec_l05Set.l0 k1 l0 (y143.set ((wrap64 ((y143.length : Int) - 1)) : Int).toNat (⟨(rd_T40 y143 (wrap64 ((y143.length : Int) - 1))).f0, x5_1⟩ : S40)) (wrap64 (x5_1 + 1))) else (none)) else (none))) else (none))) else (none)) else (none)) = some (r1, r2) := by first | (rw [hji9] at H; exact H) | (simp only [hji9] at H ⊢; exact H)
       have hji9w : (IntKind.i64.wrap (x5_1 - 1)) = ji9 := (i64_w _).trans hji9
       by_cases c10 : 0 ≤ (ji9)
       ·rw [if_pos c10] at H
        have c10b0 : decide (0 ≤ (ji9)) = true := decide_eq_true c10
        clear c10
        by_cases c11 : (ji9) < (l0.length : Int)
        ·rw [if_pos c11] at H
         have c11b0 : decide ((ji9) < (l0.length : Int)) = true := decide_eq_true c11
         clear c11
         obtain ⟨bq12, hbq12⟩ : ∃ b_ : Bool, b_ = (rdOf false l0 (ji9)) := ⟨_, rfl⟩
         replace H : (if (bq12 = true) then (if 0 ≤ (wrap64 ((x4_1.length : Int) - 1)) then (if (wrap64 ((x4_1.length : Int) - 1)) < (x4_1.length : Int) then (spec_l05Set.l0 k1 l0 (x4_1.set ((wrap64 ((x4_1.length : Int) - 1)) : Int).toNat (⟨(rd_T40 x4_1 (wrap64 ((x4_1.length : Int) - 1))).f0, x5_1⟩ : S40)) (wrap64 (x5_1 + 1))) else (none)) else (none)) else (if x4_1.length < 8796093022208 then ((some (x4_1 ++ [(⟨x5_1, 0⟩ : S40)] : List (S40))).bind fun y143 => (if 0 ≤ (wrap64 ((y143.length : Int) - 1)) then (if (wrap64 ((y143.length : Int) - 1)) < (y143.length : Int) then (spec_l05Set.l0 k1 l0 (y143.set ((wrap64 ((y143.length : Int) - 1)) : Int).toNat (⟨(rd_T40 y143 (wrap64 ((y143.length : Int) - 1))).f0, x5_1⟩ : S40)) (wrap64 (x5_1 + 1))) else (none)) else (none))) else (none))) = some (r1, r2) := by rw [← hbq12] at H; exact H
         have Nbq12 := Aside0.mk hbq12
         clear hbq12
         by_cases c13 : (bq12 = true)
         ·subst c13
          rw [if_pos rfl] at H
          obtain ⟨ji14, hji14⟩ : ∃ j_ : Int, (wrap64 ((x4_1.length : Int) - 1)) = j_ := ⟨_, rfl⟩
          replace H : (if 0 ≤ (ji14) then (if (ji14) < (x4_1.length : Int) then (spec_l05Set.l0 k1 l0 (x4_1.set ((ji14) : Int).toNat (⟨(rd_T40 x4_1 (ji14)).f0, x5_1⟩ : S40)) (wrap64 (x5_1 + 1))) else (none)) else (none)) = some (r1, r2) := by first | (rw [hji14] at H; exact H) | (simp only [hji14] at H ⊢; exact H)
          have hji14w : (IntKind.i64.wrap ((x4_1.length : Int) - 1)) = ji14 := (i64_w _).trans hji14
          by_cases c15 : 0 ≤ (ji14)
          ·rw [if_pos c15] at H
           have c15b0 : decide (0 ≤ (ji14)) = true := decide_eq_true c15
           clear c15
           by_cases c16 : (ji14) < (x4_1.length : Int)
           ·rw [if_pos c16] at H
            have c16b0 : decide ((ji14) < (x4_1.length : Int)) = true := decide_eq_true c16
            clear c16
            obtain ⟨y142, hy142⟩ : ∃ y_ : List (S40), y_ = (x4_1.set ((ji14) : Int).toNat (⟨(rd_T40 x4_1 (ji14)).f0, x5_1⟩ : S40)) := ⟨_, rfl⟩
            replace H : (spec_l05Set.l0 k1 l0 y142 (wrap64 (x5_1 + 1))) = some (r1, r2) := by first | (rw [hy142]; with_reducible exact H) | (have H2_ := (Option.bind_some _ _).symm.trans H; rw [hy142]; with_reducible exact H2_) | (have H2_ := (Option.bind_some _ _).symm.trans H; with_reducible exact H2_) | with_reducible exact H | (rw [hy142]; exact H) | exact H
            have Ny142 := Aside0.mk hy142
            clear hy142
            have H' := Aside0.mk H
            clear H
            have p140 : 0 ≤ (x5_1 : Int) := of_decide_eq_true za
            have q140 : x5_1 < (l0.length : Int) := of_decide_eq_true za
            obtain ⟨ad140, e140, hx140_0⟩ := Kd.at_bool HR0.out x5_1 p140 q140
            (try rw [← Nbq7.out] at hx140_0)
            (try rw [← Nbq12.out] at hx140_0)
            cases e140
            replace hx140_0 := zU HB.out hx140_0
            replace p140 := eq_true p140
            replace q140 := eq_true q140
            have p141 : 0 ≤ ((ji9) : Int) := of_decide_eq_true za
            have q141 : (ji9) < (l0.length : Int) := of_decide_eq_true za
            obtain ⟨ad141, e141, hx141_0⟩ := Kd.at_bool HR0.out (ji9) p141 q141
            (try rw [← Nbq7.out] at hx141_0)
            (try rw [← Nbq12.out] at hx141_0)
            obtain rfl : ad140 = ad141 := (by injection e141)
            replace hx141_0 := zU HB.out hx141_0
            replace p141 := eq_true p141
            replace q141 := eq_true q141
            obtain ⟨Ao18, co18, eo18⟩ := Kd.R_slice HO_4.out
            subst eo18
            have p17 : 0 ≤ ((ji14) : Int) := of_decide_eq_true za
            have q17 : ((ji14) : Int) < ((x4_1.length : Int) : Int) := of_decide_eq_true za
            obtain ⟨go17, co17, eo17, gb17, gl17, cl17, HG17⟩ := Kd.R_form HO_4.out (by omega)
            (first | cases eo17 | (injection eo17 with ea_ en_ ec_; (first | subst ea_ | (injection ea_ with ea_; subst ea_)); subst ec_; clear en_))
            have GB17 := Aside0.mk gb17
            have GG17 := Aside0.mk HG17
            clear gb17 gl17 HG17
            obtain ⟨ce17, hcl17, hM17, hcc17, hfr17⟩ := Kd.R_elem HO_4.out z40 ((ji14) : Int) p17 q17
            obtain rfl := k40_openM hM17
            have hx17_0 : wr.cell? ⟨go17, ((ji14) : Int).toNat * 2, none⟩ = some (.int .i64 ((rd_T40 x4_1 (ji14)).f0)) := hcc17 0 _ rfl
            have hx17_1 : wr.cell? ⟨go17, ((ji14) : Int).toNat * 2 + 1, none⟩ = some (.int .i64 ((rd_T40 x4_1 (ji14)).f1)) := hcc17 1 _ rfl
            have hf17_0 : wr.frozen? ⟨go17, ((ji14) : Int).toNat * 2, none⟩ = false := hfr17 0
            have hf17_1 : wr.frozen? ⟨go17, ((ji14) : Int).toNat * 2 + 1, none⟩ = false := hfr17 1
            clear hcl17 hcc17 hfr17 hM17
            replace p17 := eq_true p17
            replace q17 := eq_true q17
            have HX19 := Aside0.mk (show Kd.R k40 40 wr w.heap.size (fun _ => True) (.slice (some ⟨go17, 0, none⟩) x4_1.length co18) x4_1 from (zo HO_4.out))
            obtain ⟨ce19, hcl19, hM19, hcc19, hfr19⟩ := Kd.R_elem HX19.out z40 ((ji14) : Int) (of_decide_eq_true za) (by have h_ : ((ji14) : Int) < ((x4_1.length : Int) : Int) := of_decide_eq_true za; first | exact h_ | (have e_ := (Kd.R_reads' HO_4.out).1; omega) | simpa using h_)
            obtain rfl := k40_openM hM19
            have HP19 := Kd.R_seg HX19.out ((ji14) : Int) (of_decide_eq_true za) (by have h_ : ((ji14) : Int) < ((x4_1.length : Int) : Int) := of_decide_eq_true za; first | exact h_ | (have e_ := (Kd.R_reads' HO_4.out).1; omega) | simpa using h_) (seg := [.int .i64 x5_1]) (j := 1) hcl19 hcc19 (show 2 ≤ 2 from by decide) (x' := (⟨(rd_T40 x4_1 (ji14)).f0, x5_1⟩ : S40)) (k40_mkM _ _ _ (⟨(rd_T40 x4_1 (ji14)).f0, x5_1⟩ : S40) ) (fun _ hk => hk)
            have hx19_1 := hcc19 1 _ rfl
            (try simp only [show (k40).sz = 2 from rfl, Nat.mul_one, Nat.add_zero] at hx19_1)
            have hf19_1 := hfr19 1
            (try simp only [show (k40).sz = 2 from rfl, Nat.mul_one, Nat.add_zero] at hf19_1)
            clear hcl19 hcc19 hfr19 hM19
            go_wp2_with (first | ((with_reducible refine gate_store (t := 3) (p := 33) rfl ?_); refine store_event (t := 3) (p := 33) (v := ?vo_w20) (w1 := (wr.setCell ⟨go17, ((ji14) : Int).toNat * 2 + 1, none⟩ (.int .i64 x5_1))) ?hg ?ho ?hn ?hr ?_; (case ho => rfl); (case hg => rfl); (case hn => rfl); (case hr => first | (go_simp; done) | (go_simp; rfl)); intro w20 hw; have hg : wr.grownBy w20 (some go17) := (by rw [hw]; exact HP19.2); have hp_ : Kd.R k40 40 w20 w.heap.size (fun _ => True) (.slice (some ⟨go17, 0, none⟩) x4_1.length co18) y142 := (by rw [hw, Ny142.out]; exact HP19.1); clear HP19; replace HO_4 := Aside0.mk (hp_); replace HB := Aside0.mk ((by rw [hw]; exact below_set (HB.out) GB17.out : Below w.heap.size w w20)); clear hg hw hp_))
            go_roundg k1
            case measure => have := HK1.out; omega
            case rel => exact ⟨(y142), (wrap64 (x5_1 + 1)), zf, H', ⟨by have := HK1.out; omega⟩, ⟨zo HO_4.out⟩, ⟨zw HB⟩⟩
           ·rw [if_neg c16] at H
            exact absurd H (by simp)
          ·rw [if_neg c15] at H
           exact absurd H (by simp)
         ·replace c13 := Bool.eq_false_iff.mpr c13
          subst c13
          rw [if_neg (show ¬ (false = true) by decide)] at H
          by_cases c21 : x4_1.length < 8796093022208
          ·rw [if_pos c21] at H
           have LMc21 := Aside0.mk c21
           clear c21
           obtain ⟨y143, hy143⟩ : ∃ y_ : List (S40), y_ = (x4_1 ++ [(⟨x5_1, 0⟩ : S40)]) := ⟨_, rfl⟩
           replace H : (if 0 ≤ (wrap64 ((y143.length : Int) - 1)) then (if (wrap64 ((y143.length : Int) - 1)) < (y143.length : Int) then (spec_l05Set.l0 k1 l0 (y143.set ((wrap64 ((y143.length : Int) - 1)) : Int).toNat (⟨(rd_T40 y143 (wrap64 ((y143.length : Int) - 1))).f0, x5_1⟩ : S40)) (wrap64 (x5_1 + 1))) else (none)) else (none)) = some (r1, r2) := by first | (rw [hy143]; with_reducible exact H) | (have H2_ := (Option.bind_some _ _).symm.trans H; rw [hy143]; with_reducible exact H2_) | (have H2_ := (Option.bind_some _ _).symm.trans H; with_reducible exact H2_) | with_reducible exact H | (rw [hy143]; exact H) | exact H
           have Ny143 := Aside0.mk hy143
           clear hy143
           obtain ⟨ji22, hji22⟩ : ∃ j_ : Int, (wrap64 ((y143.length : Int) - 1)) = j_ := ⟨_, rfl⟩
           replace H : (if 0 ≤ (ji22) then (if (ji22) < (y143.length : Int) then (spec_l05Set.l0 k1 l0 (y143.set ((ji22) : Int).toNat (⟨(rd_T40 y143 (ji22)).f0, x5_1⟩ : S40)) (wrap64 (x5_1 + 1))) else (none)) else (none)) = some (r1, r2) := by first | (rw [hji22] at H; exact H) | (simp only [hji22] at H ⊢; exact H)
           have hji22w : (IntKind.i64.wrap ((y143.length : Int) - 1)) = ji22 := (i64_w _).trans hji22
           by_cases c23 : 0 ≤ (ji22)
           ·rw [if_pos c23] at H
            have c23b0 : decide (0 ≤ (ji22)) = true := decide_eq_true c23
            clear c23
            by_cases c24 : (ji22) < (y143.length : Int)
            ·rw [if_pos c24] at H
             have c24b0 : decide ((ji22) < (y143.length : Int)) = true := decide_eq_true c24
             clear c24
             obtain ⟨y146, hy146⟩ : ∃ y_ : List (S40), y_ = (y143.set ((ji22) : Int).toNat (⟨(rd_T40 y143 (ji22)).f0, x5_1⟩ : S40)) := ⟨_, rfl⟩
             replace H : (spec_l05Set.l0 k1 l0 y146 (wrap64 (x5_1 + 1))) = some (r1, r2) := by first | (rw [hy146]; with_reducible exact H) | (have H2_ := (Option.bind_some _ _).symm.trans H; rw [hy146]; with_reducible exact H2_) | (have H2_ := (Option.bind_some _ _).symm.trans H; with_reducible exact H2_) | with_reducible exact H | (rw [hy146]; exact H) | exact H
             have Ny146 := Aside0.mk hy146
             clear hy146
             have H' := Aside0.mk H
             clear H
             have p140 : 0 ≤ (x5_1 : Int) := of_decide_eq_true za
             have q140 : x5_1 < (l0.length : Int) := of_decide_eq_true za
             obtain ⟨ad140, e140, hx140_0⟩ := Kd.at_bool HR0.out x5_1 p140 q140
             (try rw [← Nbq7.out] at hx140_0)
             (try rw [← Nbq12.out] at hx140_0)
             cases e140
             replace hx140_0 := zU HB.out hx140_0
             replace p140 := eq_true p140
             replace q140 := eq_true q140
             have p141 : 0 ≤ ((ji9) : Int) := of_decide_eq_true za
             have q141 : (ji9) < (l0.length : Int) := of_decide_eq_true za
             obtain ⟨ad141, e141, hx141_0⟩ := Kd.at_bool HR0.out (ji9) p141 q141
             (try rw [← Nbq7.out] at hx141_0)
             (try rw [← Nbq12.out] at hx141_0)
             obtain rfl : ad140 = ad141 := (by injection e141)
             replace hx141_0 := zU HB.out hx141_0
             replace p141 := eq_true p141
             replace q141 := eq_true q141
             go_wp2_with (first | ((with_reducible refine gate_builtin (b := .append) (xs := #[.tmp 22, .tmp 25]) rfl ?_); at_builtin; refine Kd.R_append k40 (w0 := w) w.heap.size rfl (.tmp 22) (.tmp 25) 24 40 (.agg #[(.int .i64 0), (.int .i64 0)]) 16 rfl Tryd.underlying24 info40 rfl (by decide) (by omega) u4 x4_1 (⟨x5_1, 0⟩ : S40) [.int .i64 x5_1, .int .i64 0] (fun _ => True) (fun _ => False) rfl rfl ?aP (fun _ hk => hk.elim) ?aF ?aO ?aB ?aS ?aL ?_; (case aP => exact k40_mkM _ _ _ (⟨x5_1, 0⟩ : S40)); (case aB => exact (zw HB)); (case aF => exact (fun _ _ => trivial)); (case aO => exact (zo HO_4.out)); (case aS => exact (below_size (zw HB))); (case aL => have := LMc21.out; omega); intro v144 w26 ho hb hg hat; rw [← Ny143.out] at ho; replace HB := Aside0.mk (hb); have HO145 := Aside0.mk (ho); clear HO_4; clear ho hb hg hat; obtain ⟨Ao27, co27, eo27⟩ := Kd.R_slice HO145.out; subst eo27; have p25 : 0 ≤ ((ji22) : Int) := of_decide_eq_true za; have q25 : ((ji22) : Int) < ((y143.length : Int) : Int) := of_decide_eq_true za; obtain ⟨go25, co25, eo25, gb25, gl25, cl25, HG25⟩ := Kd.R_form HO145.out (by omega); (first | cases eo25 | (injection eo25 with ea_ en_ ec_; (first | subst ea_ | (injection ea_ with ea_; subst ea_)); subst ec_; clear en_)); have GB25 := Aside0.mk gb25; have GG25 := Aside0.mk HG25; clear gb25 gl25 HG25; obtain ⟨ce25, hcl25, hM25, hcc25, hfr25⟩ := Kd.R_elem HO145.out z40 ((ji22) : Int) p25 q25; obtain rfl := k40_openM hM25; have hx25_0 : w26.cell? ⟨go25, ((ji22) : Int).toNat * 2, none⟩ = some (.int .i64 ((rd_T40 y143 (ji22)).f0)) := hcc25 0 _ rfl; have hx25_1 : w26.cell? ⟨go25, ((ji22) : Int).toNat * 2 + 1, none⟩ = some (.int .i64 ((rd_T40 y143 (ji22)).f1)) := hcc25 1 _ rfl; have hf25_0 : w26.frozen? ⟨go25, ((ji22) : Int).toNat * 2, none⟩ = false := hfr25 0; have hf25_1 : w26.frozen? ⟨go25, ((ji22) : Int).toNat * 2 + 1, none⟩ = false := hfr25 1; clear hcl25 hcc25 hfr25 hM25; replace p25 := eq_true p25; replace q25 := eq_true q25; have HX28 := Aside0.mk (show Kd.R k40 40 w26 w.heap.size (fun _ => True) (.slice (some ⟨go25, 0, none⟩) y143.length co27) y143 from (zo HO145.out)); obtain ⟨ce28, hcl28, hM28, hcc28, hfr28⟩ := Kd.R_elem HX28.out z40 ((ji22) : Int) (of_decide_eq_true za) (by have h_ : ((ji22) : Int) < ((y143.length : Int) : Int) := of_decide_eq_true za; first | exact h_ | (have e_ := (Kd.R_reads' HO145.out).1; omega) | simpa using h_); obtain rfl := k40_openM hM28; have HP28 := Kd.R_seg HX28.out ((ji22) : Int) (of_decide_eq_true za) (by have h_ : ((ji22) : Int) < ((y143.length : Int) : Int) := of_decide_eq_true za; first | exact h_ | (have e_ := (Kd.R_reads' HO145.out).1; omega) | simpa using h_) (seg := [.int .i64 x5_1]) (j := 1) hcl28 hcc28 (show 2 ≤ 2 from by decide) (x' := (⟨(rd_T40 y143 (ji22)).f0, x5_1⟩ : S40)) (k40_mkM _ _ _ (⟨(rd_T40 y143 (ji22)).f0, x5_1⟩ : S40) ) (fun _ hk => hk); have hx28_1 := hcc28 1 _ rfl; (try simp only [show (k40).sz = 2 from rfl, Nat.mul_one, Nat.add_zero] at hx28_1); have hf28_1 := hfr28 1; (try simp only [show (k40).sz = 2 from rfl, Nat.mul_one, Nat.add_zero] at hf28_1); clear hcl28 hcc28 hfr28 hM28) | ((with_reducible refine gate_store (t := 3) (p := 33) rfl ?_); refine store_event (t := 3) (p := 33) (v := ?vo_w29) (w1 := (w26.setCell ⟨go25, ((ji22) : Int).toNat * 2 + 1, none⟩ (.int .i64 x5_1))) ?hg ?ho ?hn ?hr ?_; (case ho => rfl); (case hg => rfl); (case hn => rfl); (case hr => first | (go_simp; done) | (go_simp; rfl)); intro w29 hw; have hg : w26.grownBy w29 (some go25) := (by rw [hw]; exact HP28.2); have hp_ : Kd.R k40 40 w29 w.heap.size (fun _ => True) (.slice (some ⟨go25, 0, none⟩) y143.length co27) y146 := (by rw [hw, Ny146.out]; exact HP28.1); clear HP28; replace HO145 := Aside0.mk (hp_); replace HB := Aside0.mk ((by rw [hw]; exact below_set (HB.out) GB25.out : Below w.heap.size w w29)); clear hg hw hp_))
             go_roundg k1
             case measure => have := HK1.out; omega
             case rel => exact ⟨(y146), (wrap64 (x5_1 + 1)), zf, H', ⟨by have := HK1.out; omega⟩, ⟨zo HO145.out⟩, ⟨zw HB⟩⟩
            ·rw [if_neg c24] at H
             exact absurd H (by simp)
           ·rw [if_neg c23] at H
            exact absurd H (by simp)
          ·rw [if_neg c21] at H
           exact absurd H (by simp)
        ·rw [if_neg c11] at H
         exact absurd H (by simp)
       ·rw [if_neg c10] at H
        exact absurd H (by simp)
      ·replace c8 := Bool.eq_false_iff.mpr c8
       subst c8
       rw [if_neg (show ¬ (false = true) by decide)] at H
       have H' := Aside0.mk H
       clear H
       have p140 : 0 ≤ (x5_1 : Int) := of_decide_eq_true za
       have q140 : x5_1 < (l0.length : Int) := of_decide_eq_true za
       obtain ⟨ad140, e140, hx140_0⟩ := Kd.at_bool HR0.out x5_1 p140 q140
       (try rw [← Nbq7.out] at hx140_0)
       cases e140
       replace hx140_0 := zU HB.out hx140_0
       replace p140 := eq_true p140
       replace q140 := eq_true q140
       go_wp2
       go_roundg k1
       case measure => have := HK1.out; omega
       case rel => exact ⟨(x4_1), (wrap64 (x5_1 + 1)), zf, H', ⟨by have := HK1.out; omega⟩, ⟨zo HO_4.out⟩, ⟨zw HB⟩⟩
     ·rw [if_neg c6] at H
      exact absurd H (by simp)
    ·rw [if_neg c5] at H
     exact absurd H (by simp)
   ·rw [if_neg c4] at H
    have c4b0 : decide (x5_1 ≤ 9999) = false := decide_eq_false c4
    clear c4
    replace H := Option.bind_eq_some_iff.mp H
    obtain ⟨t136, A300, H⟩ := H
    have A30 := Aside0.mk A300
    clear A300
    by_cases c31 : t136 = true
    ·subst c31
     rw [if_pos rfl] at H
     simp only [Option.some.injEq, Prod.mk.injEq] at H
     obtain ⟨rfl, rfl⟩ := H
     obtain ⟨Ao32, co32, eo32⟩ := Kd.R_slice HO_4.out
     subst eo32
     go_wp2_with (first | ((with_reducible refine gate_callee (f := 21) rfl ?_); refine zG (some 35) Tryd.func21 #[.slice Ao32 x4_1.length co32] ?_; (with_reducible refine (spec_SetOk.calls k1 _ _ x4_1 true _ ?side1 ?side2 A30.out).mono ?_); (case side1 => exact zI (Kd.R_reads' HO_4.out).2.2); (case side2 => exact (Kd.R_reads' HO_4.out).2.1); rintro e w33 ⟨rfl, hb⟩; refine ⟨_, rfl, ?_⟩; replace HO_4 := Aside0.mk (Kd.R_below (zo HO_4.out) hb); replace HB := zs HB hb; clear hb))
     go_ret2
     exact ⟨_, ze, zo HO_4.out, zw HB⟩
    ·replace c31 := Bool.eq_false_iff.mpr c31
     subst c31
     rw [if_neg (show ¬ (false = true) by decide)] at H
     obtain ⟨y137, hy137⟩ : ∃ y_ : List (S40), y_ = (([] : List (S40))) := ⟨_, rfl⟩
     replace H : (some (y137, false)) = some (r1, r2) := by first | (rw [hy137]; with_reducible exact H) | (have H2_ := (Option.bind_some _ _).symm.trans H; rw [hy137]; with_reducible exact H2_) | (have H2_ := (Option.bind_some _ _).symm.trans H; with_reducible exact H2_) | with_reducible exact H | (rw [hy137]; exact H) | exact H
     have Ny137 := Aside0.mk hy137
     clear hy137
     simp only [Option.some.injEq, Prod.mk.injEq] at H
     obtain ⟨rfl, rfl⟩ := H
     obtain ⟨Ao34, co34, eo34⟩ := Kd.R_slice HO_4.out
     subst eo34
     go_wp2_with (first | ((with_reducible refine gate_callee (f := 21) rfl ?_); refine zG (some 35) Tryd.func21 #[.slice Ao34 x4_1.length co34] ?_; (with_reducible refine (spec_SetOk.calls k1 _ _ x4_1 false _ ?side1 ?side2 A30.out).mono ?_); (case side1 => exact zI (Kd.R_reads' HO_4.out).2.2); (case side2 => exact (Kd.R_reads' HO_4.out).2.1); rintro e w35 ⟨rfl, hb⟩; refine ⟨_, rfl, ?_⟩; replace HO_4 := Aside0.mk (Kd.R_below (zo HO_4.out) hb); replace HB := zs HB hb; clear hb) | ((with_reducible refine gate_dst (N := 37) rfl ?_); refine Kd.R_lit k40 _ 40 ?hg (N := 37) ?hd (xs := ([] : List (S40))) (inner := []) (ok := fun _ => True) (okp := fun _ => True) ?hr ?hp (fun _ hk => hk) trivial (Below.refl _ _) (Nat.le_refl _) (by simp) ?_; (case hd => rfl); (case hg => rfl); (case hr => first | (go_simp; done) | (go_simp; rfl)); (case hp => exact (Reps.none _ _)); intro v138 w36 ho37 hb hg_ hnew_; clear hg_ hnew_; (first | rw [← Ny137.out] at ho37 | (simp only [Int.reduceToNat] at ho37; rw [← Ny137.out] at ho37)); have HO139 := Aside0.mk (Kd.R_lower (Kd.R_new' ho37 (Kd.R_lt (zo HO_4.out))) (below_size (zw HB))); replace HO_4 := Aside0.mk (Kd.R_elder' (zo HO_4.out) (Kd.R_base ho37) hb); replace HB := zs HB hb; clear hb ho37))
     go_ret2
     exact ⟨_, ze, zo (Kd.R_mono HO139.out (fun _ hk => trivial)), zw HB⟩

/-! ### spec_l05Bits: function 61 -/
mutual
def spec_l05Bits.l0 : Nat → List (S40) → List Bool → Int → Option (List Bool)
 | 0, _, _, _ => none
 | k + 1, x0, x3, x4 => if x4 < (x0.length : Int) then (if 0 ≤ x4 then (spec_l05Bits.l1 k x0 x3 x4 ((rd_T40 x0 x4).f0)) else (none)) else (some x3)
def spec_l05Bits.l1 : Nat → List (S40) → List Bool → Int → Int → Option (List Bool)
 | 0, _, _, _, _ => none
 | k + 1, x0, x3, x4, x5 => if 0 ≤ x4 then (if x4 < (x0.length : Int) then (if x5 ≤ ((rd_T40 x0 x4).f1) then (if 0 ≤ x5 then (if x5 < (x3.length : Int) then (spec_l05Bits.l1 k x0 (x3.set (x5 : Int).toNat true) x4 (wrap64 (x5 + 1))) else (none)) else (none)) else (spec_l05Bits.l0 k x0 x3 (wrap64 (x4 + 1)))) else (none)) else (none)
end
def spec_l05Bits.f (k : Nat) (l0 : List (S40)) : Option (List Bool) := if 10001 ≤ 281474976710656 then (spec_l05Bits.l0 k l0 (List.replicate 10001 false) 0) else (none)
theorem spec_l05Bits.mono_l : ∀ k, (∀ y0 y1 y2, LeO (spec_l05Bits.l0 k y0 y1 y2) (spec_l05Bits.l0 (k + 1) y0 y1 y2)) ∧ (∀ y0 y1 y2 y3, LeO (spec_l05Bits.l1 k y0 y1 y2 y3) (spec_l05Bits.l1 (k + 1) y0 y1 y2 y3))
 | 0 => ⟨fun _ _ _ r h => by simp [spec_l05Bits.l0] at h, fun _ _ _ _ r h => by simp [spec_l05Bits.l1] at h⟩
 | k + 1 => by
  obtain ⟨ih0, ih1⟩ := spec_l05Bits.mono_l k
  refine ⟨?_, ?_⟩
  ·intro y0 y1 y2
   unfold spec_l05Bits.l0
   repeat' first
   | (with_reducible exact ih0 _ _ _)
   | (with_reducible exact ih1 _ _ _ _)
   | (with_reducible exact LeO.refl _)
   | (with_reducible exact LeO.none _)
   | (with_reducible refine LeO.ite ?_ ?_)
   | (with_reducible refine LeO.bind ?_ (fun _ => ?_))
   | exact ih0 _ _ _
   | exact ih1 _ _ _ _
   | exact LeO.none _
   | refine LeO.ite ?_ ?_
   | refine LeO.bind ?_ (fun _ => ?_)
  ·intro y0 y1 y2 y3
   unfold spec_l05Bits.l1
   repeat' first
   | (with_reducible exact ih0 _ _ _)
   | (with_reducible exact ih1 _ _ _ _)
   | (with_reducible exact LeO.refl _)
   | (with_reducible exact LeO.none _)
   | (with_reducible refine LeO.ite ?_ ?_)
   | (with_reducible refine LeO.bind ?_ (fun _ => ?_))
   | exact ih0 _ _ _
   | exact ih1 _ _ _ _
   | exact LeO.none _
   | refine LeO.ite ?_ ?_
   | refine LeO.bind ?_ (fun _ => ?_)
theorem spec_l05Bits.mono : ∀ a0 k, LeO (spec_l05Bits.f k a0) (spec_l05Bits.f (k + 1) a0) := by
 intro a0 k
 obtain ⟨ih0, ih1⟩ := spec_l05Bits.mono_l k
 unfold spec_l05Bits.f
 repeat' first
   | (with_reducible exact ih0 _ _ _)
   | (with_reducible exact ih1 _ _ _ _)
   | (with_reducible exact LeO.refl _)
   | (with_reducible exact LeO.none _)
   | (with_reducible refine LeO.ite ?_ ?_)
   | (with_reducible refine LeO.bind ?_ (fun _ => ?_))
   | exact ih0 _ _ _
   | exact ih1 _ _ _ _
   | exact LeO.none _
   | refine LeO.ite ?_ ?_
   | refine LeO.bind ?_ (fun _ => ?_)
set_option maxHeartbeats 8000000 in
set_option maxRecDepth 100000 in
theorem spec_l05Bits.calls (k : Nat) (A0 : Option Addr) (c0 : Nat) (l0 : List (S40)) (r : List Bool) (w : World) (hr0 : Kd.C k40 w A0 l0.length l0) (hc0 : l0.length ≤ c0) (h : spec_l05Bits.f k l0 = some r) :
  Calls Tryd.prog 61 #[.slice A0 l0.length c0] w fun e w' => ∃ v0_ : Value, e = .returned (v0_) ∧ Kd.R Kd.bool 4 w' w.heap.size (fun _ => True) v0_ r ∧ Below w.heap.size w w' := by
 have HR0 := Aside0.mk hr0
 have HC0 := Aside0.mk hc0
 clear hr0 hc0
 have HB := Aside0.mk (Below.refl w.heap.size w)
 have H : (if 10001 ≤ 281474976710656 then (spec_l05Bits.l0 k l0 (List.replicate 10001 false) 0) else (none)) = some r := h
 clear h
 by_cases c2 : 10001 ≤ 281474976710656
 ·rw [if_pos c2] at H
  have c2b0 := eq_true c2
  have c2b1 : decide (10001 ≤ 281474976710656) = true := decide_eq_true c2
  clear c2
  obtain ⟨y147, hy147⟩ : ∃ y_ : List Bool, y_ = (List.replicate 10001 false) := ⟨_, rfl⟩
  replace H : (spec_l05Bits.l0 k l0 y147 0) = some r := by first | (rw [hy147]; with_reducible exact H) | (have H2_ := (Option.bind_some _ _).symm.trans H; rw [hy147]; with_reducible exact H2_) | (have H2_ := (Option.bind_some _ _).symm.trans H; with_reducible exact H2_) | with_reducible exact H | (rw [hy147]; exact H) | exact H
  have Ny147 := Aside0.mk hy147
  clear hy147
  have H' := Aside0.mk H
  clear H
  go_enter Tryd.func61, Tryd.ntmps61
  go_wp2_with (first | ((with_reducible refine gate_dst (N := 6) rfl ?_); refine Kd.R_make Kd.bool _ 4 rfl (N := 6) rfl 68 _ _ rfl 10001 rfl rfl Tryd.underlying68 (.bool false) 1 info4 rfl (by decide) (by omega) false (ok := fun _ => True) (okp := fun _ => True) rfl (fun _ hk => hk) trivial (by omega) (by omega) (Below.refl _ _) (Nat.le_refl _) ?_; intro v148 w3 ho4 hb hg_ hnew_; clear hg_ hnew_; (first | rw [← Ny147.out] at ho4 | (simp only [Int.reduceToNat] at ho4; rw [← Ny147.out] at ho4)); have HO149 := Aside0.mk (Kd.R_lower ho4 (below_size (zw HB))); replace HB := zs HB hb; clear hb ho4))
  go_loopg [4] k (fun kq v4 w' => ∃ (x3_1 : List Bool) (x4_1 : Int), v4 = .int .i64 x4_1 ∧ Aside0 (spec_l05Bits.l0 kq l0 x3_1 x4_1 = some r) ∧ Aside0 (kq ≤ k) ∧ Aside0 (Kd.R Kd.bool 4 w' w.heap.size (fun _ => True) v148 x3_1) ∧ Aside0 (Below w.heap.size w w'))
  case atStart => exact ⟨(y147), (0), zf, H', ⟨Nat.le_refl _⟩, ⟨zo HO149.out⟩, ⟨zw HB⟩⟩
  case round =>
   clear H'
   try clear c2
   try clear c2b0
   try clear c2b1
   try clear p2
   obtain ⟨x3_1, x4_1, rfl, HA, HK1, HO_3, HB⟩ := hrel
   cases gk with
   | zero => exact absurd HA.out (by simp [spec_l05Bits.l0])
   | succ k1 =>
    have H := HA.out
    clear HA
    simp only [spec_l05Bits.l0] at H
    by_cases c5 : x4_1 < (l0.length : Int)
    ·rw [if_pos c5] at H
     have c5b0 : decide (x4_1 < (l0.length : Int)) = true := decide_eq_true c5
     clear c5
     by_cases c6 : 0 ≤ x4_1
     ·rw [if_pos c6] at H
      have c6b0 : decide (0 ≤ x4_1) = true := decide_eq_true c6
      clear c6
      have H' := Aside0.mk H
      clear H
      have p150 : 0 ≤ (x4_1 : Int) := of_decide_eq_true za
      have q150 : x4_1 < (l0.length : Int) := of_decide_eq_true za
      obtain ⟨ad150, e150, hx150_0, hx150_1⟩ := at_T40 HR0.out x4_1 p150 q150
      cases e150
      replace hx150_0 := zU HB.out hx150_0
      replace hx150_1 := zU HB.out hx150_1
      replace p150 := eq_true p150
      replace q150 := eq_true q150
      go_wp2
      go_loopg [5] k1 (fun kq v5 w' => ∃ (x3_2 : List Bool) (x5_2 : Int), v5 = .int .i64 x5_2 ∧ Aside0 (spec_l05Bits.l1 kq l0 x3_2 x4_1 x5_2 = some r) ∧ Aside0 (kq ≤ k1) ∧ Aside0 (Kd.R Kd.bool 4 w' w.heap.size (fun _ => True) v148 x3_2) ∧ Aside0 (Below w.heap.size w w'))
      case atStart => exact ⟨(x3_1), ((rd_T40 l0 x4_1).f0), zf, H', ⟨Nat.le_refl _⟩, ⟨zo HO_3.out⟩, ⟨zw HB⟩⟩
      case round =>
       clear H'
       try clear p1
       try clear q1
       try clear hx1
       try clear c2
       try clear c2b0
       try clear c2b1
       try clear p2
       try clear c5
       try clear c5b0
       try clear c6
       try clear c6b0
       try clear hx150_0
       try clear hx150_1
       try clear p150
       try clear p2
       try clear q150
       obtain ⟨x3_2, x5_2, rfl, HA, HK2, HO_3, HB⟩ := hrel
       cases gk with
       | zero => exact absurd HA.out (by simp [spec_l05Bits.l1])
       | succ k2 =>
        have H := HA.out
        clear HA
        simp only [spec_l05Bits.l1] at H
        by_cases c7 : 0 ≤ x4_1
        ·rw [if_pos c7] at H
         have c7b0 : decide (0 ≤ x4_1) = true := decide_eq_true c7
         clear c7
         by_cases c8 : x4_1 < (l0.length : Int)
         ·rw [if_pos c8] at H
          have c8b0 : decide (x4_1 < (l0.length : Int)) = true := decide_eq_true c8
          clear c8
          by_cases c9 : x5_2 ≤ ((rd_T40 l0 x4_1).f1)
          ·rw [if_pos c9] at H
           have c9b0 : decide (x5_2 ≤ ((rd_T40 l0 x4_1).f1)) = true := decide_eq_true c9
           clear c9
           by_cases c10 : 0 ≤ x5_2
           ·rw [if_pos c10] at H
            have c10b0 : decide (0 ≤ x5_2) = true := decide_eq_true c10
            clear c10
            by_cases c11 : x5_2 < (x3_2.length : Int)
            ·rw [if_pos c11] at H
             have c11b0 : decide (x5_2 < (x3_2.length : Int)) = true := decide_eq_true c11
             clear c11
             obtain ⟨y152, hy152⟩ : ∃ y_ : List Bool, y_ = (x3_2.set (x5_2 : Int).toNat true) := ⟨_, rfl⟩
             replace H : (spec_l05Bits.l1 k2 l0 y152 x4_1 (wrap64 (x5_2 + 1))) = some r := by first | (rw [hy152]; with_reducible exact H) | (have H2_ := (Option.bind_some _ _).symm.trans H; rw [hy152]; with_reducible exact H2_) | (have H2_ := (Option.bind_some _ _).symm.trans H; with_reducible exact H2_) | with_reducible exact H | (rw [hy152]; exact H) | exact H
             have Ny152 := Aside0.mk hy152
             clear hy152
             have H' := Aside0.mk H
             clear H
             have p151 : 0 ≤ (x4_1 : Int) := of_decide_eq_true za
             have q151 : x4_1 < (l0.length : Int) := of_decide_eq_true za
             obtain ⟨ad151, e151, hx151_0, hx151_1⟩ := at_T40 HR0.out x4_1 p151 q151
             obtain rfl : ad150 = ad151 := (by injection e151)
             replace hx151_0 := zU HB.out hx151_0
             replace hx151_1 := zU HB.out hx151_1
             replace p151 := eq_true p151
             replace q151 := eq_true q151
             have p12 : 0 ≤ (x5_2 : Int) := of_decide_eq_true za
             have q12 : (x5_2 : Int) < ((x3_2.length : Int) : Int) := of_decide_eq_true za
             obtain ⟨go12, co12, eo12, gb12, gl12, cl12, HG12⟩ := Kd.R_form HO_3.out (by omega)
             (first | cases eo12 | (injection eo12 with ea_ en_ ec_; (first | subst ea_ | (injection ea_ with ea_; subst ea_)); subst ec_; clear en_))
             have GB12 := Aside0.mk gb12
             have GG12 := Aside0.mk HG12
             clear gb12 gl12 HG12
             obtain ⟨hx12_0, hf12_0⟩ := Kd.R_celln false HO_3.out (x5_2 : Int) p12 q12
             replace p12 := eq_true p12
             replace q12 := eq_true q12
             have HP13 := Kd.R_putg HO_3.out (x5_2 : Int) true
             go_wp2_with (first | ((with_reducible refine gate_store (t := 4) (p := 29) rfl ?_); refine store_event (t := 4) (p := 29) (v := ?vo_w14) (w1 := (wr.setCell ⟨go12, (x5_2 : Int).toNat, none⟩ (.bool true))) ?hg ?ho ?hn ?hr ?_; (case ho => rfl); (case hg => rfl); (case hn => rfl); (case hr => first | (go_simp; done) | (go_simp; rfl)); intro w14 hw; have hg : wr.grownBy w14 (some go12) := (by rw [hw]; exact HP13.2); have hp_ : Kd.R Kd.bool 4 w14 w.heap.size (fun _ => True) (.slice (some ⟨go12, 0, none⟩) x3_2.length co12) y152 := (by rw [hw, Ny152.out]; exact HP13.1); clear HP13; replace HO_3 := Aside0.mk (hp_); replace HB := Aside0.mk ((by rw [hw]; exact below_set (HB.out) GB12.out : Below w.heap.size w w14)); clear hg hw hp_))
             go_roundg k2
             case measure => have := HK1.out; have := HK2.out; omega
             case rel => exact ⟨(y152), (wrap64 (x5_2 + 1)), zf, H', ⟨by have := HK1.out; have := HK2.out; omega⟩, ⟨zo HO_3.out⟩, ⟨zw HB⟩⟩
            ·rw [if_neg c11] at H
             exact absurd H (by simp)
           ·rw [if_neg c10] at H
            exact absurd H (by simp)
          ·rw [if_neg c9] at H
           have c9b0 : decide (x5_2 ≤ ((rd_T40 l0 x4_1).f1)) = false := decide_eq_false c9
           clear c9
           have H' := Aside0.mk H
           clear H
           have p151 : 0 ≤ (x4_1 : Int) := of_decide_eq_true za
           have q151 : x4_1 < (l0.length : Int) := of_decide_eq_true za
           obtain ⟨ad151, e151, hx151_0, hx151_1⟩ := at_T40 HR0.out x4_1 p151 q151
           obtain rfl : ad150 = ad151 := (by injection e151)
           replace hx151_0 := zU HB.out hx151_0
           replace hx151_1 := zU HB.out hx151_1
           replace p151 := eq_true p151
           replace q151 := eq_true q151
           go_wp2
           go_roundg k2
           case measure => have := HK1.out; have := HK2.out; omega
           case rel => exact ⟨(x3_2), (wrap64 (x4_1 + 1)), zf, H', ⟨by have := HK1.out; have := HK2.out; omega⟩, ⟨zo HO_3.out⟩, ⟨zw HB⟩⟩
         ·rw [if_neg c8] at H
          exact absurd H (by simp)
        ·rw [if_neg c7] at H
         exact absurd H (by simp)
     ·rw [if_neg c6] at H
      exact absurd H (by simp)
    ·rw [if_neg c5] at H
     have c5b0 : decide (x4_1 < (l0.length : Int)) = false := decide_eq_false c5
     clear c5
     obtain rfl := Option.some.inj H
     go_wp2
     go_ret
     exact ⟨_, ze, zo HO_3.out, zw HB⟩
 ·rw [if_neg c2] at H
  exact absurd H (by simp)

/-! ### spec_l05Put: function 42 -/
mutual
def spec_l05Put.j0 : Nat → List (S40) → Int → Int → Bool → List (S40) → Bool → Option ((List (S40)) × Bool)
 | 0, _, _, _, _, _, _ => none
 | k + 1, x0, x1, x2, x3, x10, x30 => if x30 = true then (some (x10, false)) else ((spec_l05Bits.f k x0).bind fun t161 => (spec_l05Put.l0 k x2 x3 x10 t161 x1))
def spec_l05Put.l0 : Nat → Int → Bool → List (S40) → List Bool → Int → Option ((List (S40)) × Bool)
 | 0, _, _, _, _, _ => none
 | k + 1, x2, x3, x10, x11, x12 => if x12 ≤ x2 then (if 0 ≤ x12 then (if x12 < (x11.length : Int) then (spec_l05Put.l0 k x2 x3 x10 (x11.set (x12 : Int).toNat x3) (wrap64 (x12 + 1))) else (none)) else (none)) else ((spec_l05Set.f k x11).bind fun bt165 => (if bt165.2 = true then (some (bt165.1, true)) else (some (x10, false))))
end
def spec_l05Put.f (k : Nat) (l0 : List (S40)) (a1 : Int) (a2 : Int) (a3 : Bool) : Option ((List (S40)) × Bool) := (some (([] : List (S40)) : List (S40))).bind fun y153 => (if y153.length + l0.length < 8796093022208 then ((some (y153 ++ l0 : List (S40))).bind fun y156 => ((spec_SetOk.f k l0).bind fun t159 => (if t159 = true then ((spec_l01In.f a1 1 a2).bind fun t160 => (if t160 = true then (spec_l05Put.j0 k l0 a1 a2 a3 y156 (decide (a2 > 9999))) else (spec_l05Put.j0 k l0 a1 a2 a3 y156 true))) else (spec_l05Put.j0 k l0 a1 a2 a3 y156 true)))) else (none))
theorem spec_l05Put.mono_l : ∀ k, (∀ y0 y1 y2 y3 y4 y5, LeO (spec_l05Put.j0 k y0 y1 y2 y3 y4 y5) (spec_l05Put.j0 (k + 1) y0 y1 y2 y3 y4 y5)) ∧ (∀ y0 y1 y2 y3 y4, LeO (spec_l05Put.l0 k y0 y1 y2 y3 y4) (spec_l05Put.l0 (k + 1) y0 y1 y2 y3 y4))
 | 0 => ⟨fun _ _ _ _ _ _ r h => by simp [spec_l05Put.j0] at h, fun _ _ _ _ _ r h => by simp [spec_l05Put.l0] at h⟩
 | k + 1 => by
  obtain ⟨ih0, ih1⟩ := spec_l05Put.mono_l k
  refine ⟨?_, ?_⟩
  ·intro y0 y1 y2 y3 y4 y5
   unfold spec_l05Put.j0
   repeat' first
   | (with_reducible exact ih0 _ _ _ _ _ _)
   | (with_reducible exact ih1 _ _ _ _ _)
   | (with_reducible exact spec_SetOk.mono _ _)
   | (with_reducible exact spec_l05Bits.mono _ _)
   | (with_reducible exact spec_l05Set.mono _ _)
   | (with_reducible exact LeO.refl _)
   | (with_reducible exact LeO.none _)
   | (with_reducible refine LeO.ite ?_ ?_)
   | (with_reducible refine LeO.bind ?_ (fun _ => ?_))
   | exact ih0 _ _ _ _ _ _
   | exact ih1 _ _ _ _ _
   | exact spec_SetOk.mono _ _
   | exact spec_l05Bits.mono _ _
   | exact spec_l05Set.mono _ _
   | exact LeO.none _
   | refine LeO.ite ?_ ?_
   | refine LeO.bind ?_ (fun _ => ?_)
  ·intro y0 y1 y2 y3 y4
   unfold spec_l05Put.l0
   repeat' first
   | (with_reducible exact ih0 _ _ _ _ _ _)
   | (with_reducible exact ih1 _ _ _ _ _)
   | (with_reducible exact spec_SetOk.mono _ _)
   | (with_reducible exact spec_l05Bits.mono _ _)
   | (with_reducible exact spec_l05Set.mono _ _)
   | (with_reducible exact LeO.refl _)
   | (with_reducible exact LeO.none _)
   | (with_reducible refine LeO.ite ?_ ?_)
   | (with_reducible refine LeO.bind ?_ (fun _ => ?_))
   | exact ih0 _ _ _ _ _ _
   | exact ih1 _ _ _ _ _
   | exact spec_SetOk.mono _ _
   | exact spec_l05Bits.mono _ _
   | exact spec_l05Set.mono _ _
   | exact LeO.none _
   | refine LeO.ite ?_ ?_
   | refine LeO.bind ?_ (fun _ => ?_)
theorem spec_l05Put.mono : ∀ a0 a1 a2 a3 k, LeO (spec_l05Put.f k a0 a1 a2 a3) (spec_l05Put.f (k + 1) a0 a1 a2 a3) := by
 intro a0 a1 a2 a3 k
 obtain ⟨ih0, ih1⟩ := spec_l05Put.mono_l k
 unfold spec_l05Put.f
 repeat' first
   | (with_reducible exact ih0 _ _ _ _ _ _)
   | (with_reducible exact ih1 _ _ _ _ _)
   | (with_reducible exact spec_SetOk.mono _ _)
   | (with_reducible exact spec_l05Bits.mono _ _)
   | (with_reducible exact spec_l05Set.mono _ _)
   | (with_reducible exact LeO.refl _)
   | (with_reducible exact LeO.none _)
   | (with_reducible refine LeO.ite ?_ ?_)
   | (with_reducible refine LeO.bind ?_ (fun _ => ?_))
   | exact ih0 _ _ _ _ _ _
   | exact ih1 _ _ _ _ _
   | exact spec_SetOk.mono _ _
   | exact spec_l05Bits.mono _ _
   | exact spec_l05Set.mono _ _
   | exact LeO.none _
   | refine LeO.ite ?_ ?_
   | refine LeO.bind ?_ (fun _ => ?_)
set_option maxHeartbeats 8000000 in
set_option maxRecDepth 100000 in
theorem spec_l05Put.calls (k : Nat) (A0 : Option Addr) (c0 : Nat) (l0 : List (S40)) (a1 : Int) (a2 : Int) (a3 : Bool) (r1 : List (S40)) (r2 : Bool) (w : World) (hr0 : Kd.C k40 w A0 l0.length l0) (hc0 : l0.length ≤ c0) (h : spec_l05Put.f k l0 a1 a2 a3 = some (r1, r2)) :
  Calls Tryd.prog 42 #[.slice A0 l0.length c0, .int .i64 a1, .int .i64 a2, .bool a3] w fun e w' => ∃ v0_ : Value, e = .returned (.tuple #[v0_, .bool r2]) ∧ Kd.R k40 40 w' w.heap.size (fun _ => True) v0_ r1 ∧ Below w.heap.size w w' := by
 have HR0 := Aside0.mk hr0
 have HC0 := Aside0.mk hc0
 clear hr0 hc0
 have HB := Aside0.mk (Below.refl w.heap.size w)
 have H : ((some (([] : List (S40)) : List (S40))).bind fun y153 => (if y153.length + l0.length < 8796093022208 then ((some (y153 ++ l0 : List (S40))).bind fun y156 => ((spec_SetOk.f k l0).bind fun t159 => (if t159 = true then ((spec_l01In.f a1 1 a2).bind fun t160 => (if t160 = true then (spec_l05Put.j0 k l0 a1 a2 a3 y156 (decide (a2 > 9999))) else (spec_l05Put.j0 k l0 a1 a2 a3 y156 true))) else (spec_l05Put.j0 k l0 a1 a2 a3 y156 true)))) else (none))) = some (r1, r2) := h
 clear h
 obtain ⟨y153, hy153⟩ : ∃ y_ : List (S40), y_ = (([] : List (S40))) := ⟨_, rfl⟩
 replace H : (if y153.length + l0.length < 8796093022208 then ((some (y153 ++ l0 : List (S40))).bind fun y156 => ((spec_SetOk.f k l0).bind fun t159 => (if t159 = true then ((spec_l01In.f a1 1 a2).bind fun t160 => (if t160 = true then (spec_l05Put.j0 k l0 a1 a2 a3 y156 (decide (a2 > 9999))) else (spec_l05Put.j0 k l0 a1 a2 a3 y156 true))) else (spec_l05Put.j0 k l0 a1 a2 a3 y156 true)))) else (none)) = some (r1, r2) := by first | (rw [hy153]; with_reducible exact H) | (have H2_ := (Option.bind_some _ _).symm.trans H; rw [hy153]; with_reducible exact H2_) | (have H2_ := (Option.bind_some _ _).symm.trans H; with_reducible exact H2_) | with_reducible exact H | (rw [hy153]; exact H) | exact H
 have Ny153 := Aside0.mk hy153
 clear hy153
 by_cases c5 : y153.length + l0.length < 8796093022208
 ·rw [if_pos c5] at H
  have LMc5 := Aside0.mk c5
  clear c5
  obtain ⟨y156, hy156⟩ : ∃ y_ : List (S40), y_ = (y153 ++ l0) := ⟨_, rfl⟩
  replace H : ((spec_SetOk.f k l0).bind fun t159 => (if t159 = true then ((spec_l01In.f a1 1 a2).bind fun t160 => (if t160 = true then (spec_l05Put.j0 k l0 a1 a2 a3 y156 (decide (a2 > 9999))) else (spec_l05Put.j0 k l0 a1 a2 a3 y156 true))) else (spec_l05Put.j0 k l0 a1 a2 a3 y156 true))) = some (r1, r2) := by first | (rw [hy156]; with_reducible exact H) | (have H2_ := (Option.bind_some _ _).symm.trans H; rw [hy156]; with_reducible exact H2_) | (have H2_ := (Option.bind_some _ _).symm.trans H; with_reducible exact H2_) | with_reducible exact H | (rw [hy156]; exact H) | exact H
  have Ny156 := Aside0.mk hy156
  clear hy156
  have HC6 := Aside0.mk H
  clear H
  go_enter Tryd.func42, Tryd.ntmps42
  go_upto_region 2 with (first | ((with_reducible refine gate_dst (N := 15) rfl ?_); refine Kd.R_lit k40 _ 40 ?hg (N := 15) ?hd (xs := ([] : List (S40))) (inner := []) (ok := fun _ => True) (okp := fun _ => True) ?hr ?hp (fun _ hk => hk) trivial (Below.refl _ _) (Nat.le_refl _) (by simp) ?_; (case hd => rfl); (case hg => rfl); (case hr => first | (go_simp; done) | (go_simp; rfl)); (case hp => exact (Reps.none _ _)); intro v154 w7 ho8 hb hg_ hnew_; clear hg_ hnew_; (first | rw [← Ny153.out] at ho8 | (simp only [Int.reduceToNat] at ho8; rw [← Ny153.out] at ho8)); have HO155 := Aside0.mk (Kd.R_lower ho8 (below_size (zw HB))); replace HB := zs HB hb; clear hb ho8) | ((with_reducible refine gate_builtin (b := .append) (xs := #[.tmp 15, .tmp 16]) rfl ?_); at_builtin; refine Kd.R_append_rows k40 (w0 := w) w.heap.size rfl (.tmp 15) (.tmp 16) 24 40 (.agg #[(.int .i64 0), (.int .i64 0)]) 16 rfl Tryd.underlying24 info40 rfl (by decide) (by omega) v154 y153 l0 _ _ _ (fun _ => True) (fun _ => False) rfl rfl ?aO ?aR (fun _ _ h => h) (fun _ h => h.elim) ?aF ?aB ?aS ?aL ?_; (case aR => exact zI (Kd.C_below HR0.out HB.out)); (case aB => exact (zw HB)); (case aF => exact (fun _ _ => trivial)); (case aO => exact (zo HO155.out)); (case aS => exact (below_size (zw HB))); (case aL => have := LMc5.out; omega); intro v157 w9 ho hb hg hat; rw [← Ny156.out] at ho; replace HB := Aside0.mk (hb); have HO158 := Aside0.mk (ho); clear HO155; clear ho hb hg hat))
  (try simp only [Act.put, zA, zB, zC])
  go_cut [30] (fun v30 wc => ∃ (kq : Nat) (x30_5 : Bool), v30 = .bool x30_5 ∧ Aside0 (spec_l05Put.j0 kq l0 a1 a2 a3 y156 x30_5 = some (r1, r2)) ∧ Aside0 (kq ≤ k) ∧ Aside0 (Kd.R k40 40 wc w.heap.size (fun _ => True) v157 y156) ∧ Aside0 (Below w.heap.size w wc))
  case first =>
   have H := HC6.out
   clear HC6
   replace H := Option.bind_eq_some_iff.mp H
   obtain ⟨t159, A100, H⟩ := H
   have A10 := Aside0.mk A100
   clear A100
   by_cases c11 : t159 = true
   ·subst c11
    rw [if_pos rfl] at H
    replace H := Option.bind_eq_some_iff.mp H
    obtain ⟨t160, A120, H⟩ := H
    have A12 := Aside0.mk A120
    clear A120
    by_cases c13 : t160 = true
    ·subst c13
     rw [if_pos rfl] at H
     have H' := Aside0.mk H
     clear H
     go_wp2_with (first | ((with_reducible refine gate_callee (f := 21) rfl ?_); refine zG (some 19) Tryd.func21 #[.slice A0 l0.length c0] ?_; (with_reducible refine (spec_SetOk.calls k _ _ l0 true _ ?side1 ?side2 A10.out).mono ?_); (case side1 => exact zI (Kd.C_below HR0.out HB.out)); (case side2 => exact HC0.out); rintro e w14 ⟨rfl, hb⟩; refine ⟨_, rfl, ?_⟩; replace HO158 := Aside0.mk (Kd.R_below (zo HO158.out) hb); replace HB := zs HB hb; clear hb) | (go_at_call 52; (with_reducible refine (spec_l01In.calls a1 1 a2 true _ A12.out).mono ?_); rintro e w' ⟨rfl, ⟨nd, rfl⟩⟩))
     go_meet
     case rel => exact ⟨_, (decide (a2 > 9999)), zf, H', ⟨by first | omega | exact Nat.le_refl _⟩, ⟨zo HO158.out⟩, ⟨zw HB⟩⟩
    ·replace c13 := Bool.eq_false_iff.mpr c13
     subst c13
     rw [if_neg (show ¬ (false = true) by decide)] at H
     have H' := Aside0.mk H
     clear H
     go_wp2_with (first | ((with_reducible refine gate_callee (f := 21) rfl ?_); refine zG (some 19) Tryd.func21 #[.slice A0 l0.length c0] ?_; (with_reducible refine (spec_SetOk.calls k _ _ l0 true _ ?side1 ?side2 A10.out).mono ?_); (case side1 => exact zI (Kd.C_below HR0.out HB.out)); (case side2 => exact HC0.out); rintro e w15 ⟨rfl, hb⟩; refine ⟨_, rfl, ?_⟩; replace HO158 := Aside0.mk (Kd.R_below (zo HO158.out) hb); replace HB := zs HB hb; clear hb) | (go_at_call 52; (with_reducible refine (spec_l01In.calls a1 1 a2 false _ A12.out).mono ?_); rintro e w' ⟨rfl, ⟨nd, rfl⟩⟩))
     go_meet
     case rel => exact ⟨_, (true), zf, H', ⟨by first | omega | exact Nat.le_refl _⟩, ⟨zo HO158.out⟩, ⟨zw HB⟩⟩
   ·replace c11 := Bool.eq_false_iff.mpr c11
    subst c11
    rw [if_neg (show ¬ (false = true) by decide)] at H
    have H' := Aside0.mk H
    clear H
    go_wp2_with (first | ((with_reducible refine gate_callee (f := 21) rfl ?_); refine zG (some 19) Tryd.func21 #[.slice A0 l0.length c0] ?_; (with_reducible refine (spec_SetOk.calls k _ _ l0 false _ ?side1 ?side2 A10.out).mono ?_); (case side1 => exact zI (Kd.C_below HR0.out HB.out)); (case side2 => exact HC0.out); rintro e w16 ⟨rfl, hb⟩; refine ⟨_, rfl, ?_⟩; replace HO158 := Aside0.mk (Kd.R_below (zo HO158.out) hb); replace HB := zs HB hb; clear hb))
    go_meet
    case rel => exact ⟨_, (true), zf, H', ⟨by first | omega | exact Nat.le_refl _⟩, ⟨zo HO158.out⟩, ⟨zw HB⟩⟩
  case rest =>
   clear HC6
   try clear c1
   try clear c2
   try clear p2
   try clear c4
   try clear c5
   try clear c11
   try clear c13
   obtain ⟨kq, x30_5, rfl, HA, HJ5, HO_10, HB⟩ := hcut
   cases kq with
   | zero => exact absurd HA.out (by simp [spec_l05Put.j0])
   | succ kj5 =>
    have H := HA.out
    clear HA
    simp only [spec_l05Put.j0] at H
    by_cases c17 : x30_5 = true
    ·subst c17
     rw [if_pos rfl] at H
     simp only [Option.some.injEq, Prod.mk.injEq] at H
     obtain ⟨rfl, rfl⟩ := H
     go_wp2
     go_ret2
     exact ⟨_, ze, zo HO_10.out, zw HB⟩
    ·replace c17 := Bool.eq_false_iff.mpr c17
     subst c17
     rw [if_neg (show ¬ (false = true) by decide)] at H
     replace H := Option.bind_eq_some_iff.mp H
     obtain ⟨t161, A180, H⟩ := H
     have A18 := Aside0.mk A180
     clear A180
     have H' := Aside0.mk H
     clear H
     go_wp2_with (first | ((with_reducible refine gate_callee (f := 61) rfl ?_); refine zG (some 33) Tryd.func61 #[.slice A0 l0.length c0] ?_; (with_reducible refine (spec_l05Bits.calls kj5 _ _ l0 t161 _ ?side1 ?side2 A18.out).mono ?_); (case side1 => exact zI (Kd.C_below HR0.out HB.out)); (case side2 => exact HC0.out); rintro e w19 ⟨v162, rfl, ho0, hb⟩; refine ⟨_, rfl, ?_⟩; replace HO_10 := Aside0.mk (Kd.R_below (zo HO_10.out) hb); have HO163 := Aside0.mk (Kd.R_lower ho0 (below_size (zw HB))); replace HB := zs HB hb; clear ho0 hb))
     go_loopg [12] kj5 (fun kq v12 w' => ∃ (x11_2 : List Bool) (x12_2 : Int), v12 = .int .i64 x12_2 ∧ Aside0 (spec_l05Put.l0 kq a2 a3 y156 x11_2 x12_2 = some (r1, r2)) ∧ Aside0 (kq ≤ kj5) ∧ Aside0 (Kd.R k40 40 w' w.heap.size (fun _ => True) v157 y156) ∧ Aside0 (Kd.R Kd.bool 4 w' w.heap.size (fun _ => True) v162 x11_2) ∧ Aside0 (Below w.heap.size w w'))
     case atStart => exact ⟨(t161), (a1), zf, H', ⟨Nat.le_refl _⟩, ⟨zo HO_10.out⟩, ⟨zo HO163.out⟩, ⟨zw HB⟩⟩
     case round =>
      clear H'
      try clear c1
      try clear c2
      try clear p2
      try clear c4
      try clear c5
      try clear c6
      try clear c11
      try clear c13
      try clear c17
      try clear p2
      obtain ⟨x11_2, x12_2, rfl, HA, HK2, HO_10, HO_11, HB⟩ := hrel
      cases gk with
      | zero => exact absurd HA.out (by simp [spec_l05Put.l0])
      | succ k2 =>
       have H := HA.out
       clear HA
       simp only [spec_l05Put.l0] at H
       by_cases c20 : x12_2 ≤ a2
       ·rw [if_pos c20] at H
        have c20b0 : decide (x12_2 ≤ a2) = true := decide_eq_true c20
        clear c20
        by_cases c21 : 0 ≤ x12_2
        ·rw [if_pos c21] at H
         have c21b0 : decide (0 ≤ x12_2) = true := decide_eq_true c21
         clear c21
         by_cases c22 : x12_2 < (x11_2.length : Int)
         ·rw [if_pos c22] at H
          have c22b0 : decide (x12_2 < (x11_2.length : Int)) = true := decide_eq_true c22
          clear c22
          obtain ⟨y164, hy164⟩ : ∃ y_ : List Bool, y_ = (x11_2.set (x12_2 : Int).toNat a3) := ⟨_, rfl⟩
          replace H : (spec_l05Put.l0 k2 a2 a3 y156 y164 (wrap64 (x12_2 + 1))) = some (r1, r2) := by first | (rw [hy164]; with_reducible exact H) | (have H2_ := (Option.bind_some _ _).symm.trans H; rw [hy164]; with_reducible exact H2_) | (have H2_ := (Option.bind_some _ _).symm.trans H; with_reducible exact H2_) | with_reducible exact H | (rw [hy164]; exact H) | exact H
          have Ny164 := Aside0.mk hy164
          clear hy164
          have H' := Aside0.mk H
          clear H
          have p23 : 0 ≤ (x12_2 : Int) := of_decide_eq_true za
          have q23 : (x12_2 : Int) < ((x11_2.length : Int) : Int) := of_decide_eq_true za
          obtain ⟨go23, co23, eo23, gb23, gl23, cl23, HG23⟩ := Kd.R_form HO_11.out (by omega)
          (first | cases eo23 | (injection eo23 with ea_ en_ ec_; (first | subst ea_ | (injection ea_ with ea_; subst ea_)); subst ec_; clear en_))
          have GB23 := Aside0.mk gb23
          have GG23 := Aside0.mk HG23
          clear gb23 gl23 HG23
          obtain ⟨hx23_0, hf23_0⟩ := Kd.R_celln false HO_11.out (x12_2 : Int) p23 q23
          replace p23 := eq_true p23
          replace q23 := eq_true q23
          have HP24 := Kd.R_putg HO_11.out (x12_2 : Int) a3
          go_wp2_with (first | ((with_reducible refine gate_store (t := 4) (p := 43) rfl ?_); refine store_event (t := 4) (p := 43) (v := ?vo_w25) (w1 := (wr.setCell ⟨go23, (x12_2 : Int).toNat, none⟩ (.bool a3))) ?hg ?ho ?hn ?hr ?_; (case ho => rfl); (case hg => rfl); (case hn => rfl); (case hr => first | (go_simp; done) | (go_simp; rfl)); intro w25 hw; have hg : wr.grownBy w25 (some go23) := (by rw [hw]; exact HP24.2); have hp_ : Kd.R Kd.bool 4 w25 w.heap.size (fun _ => True) (.slice (some ⟨go23, 0, none⟩) x11_2.length co23) y164 := (by rw [hw, Ny164.out]; exact HP24.1); clear HP24; replace HO_10 := Aside0.mk (Kd.R_over' (v := (.slice (some ⟨go23, 0, none⟩) x11_2.length co23)) (zo HO_10.out) (Kd.R_typed HO_11.out) (by decide) hg); replace HO_11 := Aside0.mk (hp_); replace HB := Aside0.mk ((by rw [hw]; exact below_set (HB.out) GB23.out : Below w.heap.size w w25)); clear hg hw hp_))
          go_roundg k2
          case measure => have := HJ5.out; have := HK2.out; omega
          case rel => exact ⟨(y164), (wrap64 (x12_2 + 1)), zf, H', ⟨by have := HJ5.out; have := HK2.out; omega⟩, ⟨zo HO_10.out⟩, ⟨zo HO_11.out⟩, ⟨zw HB⟩⟩
         ·rw [if_neg c22] at H
          exact absurd H (by simp)
        ·rw [if_neg c21] at H
         exact absurd H (by simp)
       ·rw [if_neg c20] at H
        have c20b0 : decide (x12_2 ≤ a2) = false := decide_eq_false c20
        clear c20
        replace H := Option.bind_eq_some_iff.mp H
        obtain ⟨⟨t165, t166⟩, A260, H⟩ := H
        replace H : (if t166 = true then (some (t165, true)) else (some (y156, false))) = some (r1, r2) := H
        have A26 := Aside0.mk A260
        clear A260
        by_cases c27 : t166 = true
        ·subst c27
         rw [if_pos rfl] at H
         simp only [Option.some.injEq, Prod.mk.injEq] at H
         obtain ⟨rfl, rfl⟩ := H
         obtain ⟨Ao28, co28, eo28⟩ := Kd.R_slice HO_11.out
         subst eo28
         go_wp2_with (first | ((with_reducible refine gate_callee (f := 54) rfl ?_); refine zG (some 46) Tryd.func54 #[.slice Ao28 x11_2.length co28] ?_; (with_reducible refine (spec_l05Set.calls k2 _ _ x11_2 t165 true _ ?side1 ?side2 A26.out).mono ?_); (case side1 => exact zI (Kd.R_reads' HO_11.out).2.2); (case side2 => exact (Kd.R_reads' HO_11.out).2.1); rintro e w29 ⟨v167, rfl, ho0, hb⟩; refine ⟨_, rfl, ?_⟩; replace HO_11 := Aside0.mk (Kd.R_below (zo HO_11.out) hb); have HO168 := Aside0.mk (Kd.R_lower (Kd.R_new' ho0 (Kd.R_lt (zo HO_10.out))) (below_size (zw HB))); replace HO_10 := Aside0.mk (Kd.R_elder' (zo HO_10.out) (Kd.R_base ho0) hb); replace HB := zs HB hb; clear ho0 hb))
         go_ret2
         exact ⟨_, ze, zo (Kd.R_mono HO168.out (fun _ hk => trivial)), zw HB⟩
        ·replace c27 := Bool.eq_false_iff.mpr c27
         subst c27
         rw [if_neg (show ¬ (false = true) by decide)] at H
         simp only [Option.some.injEq, Prod.mk.injEq] at H
         obtain ⟨rfl, rfl⟩ := H
         obtain ⟨Ao30, co30, eo30⟩ := Kd.R_slice HO_11.out
         subst eo30
         go_wp2_with (first | ((with_reducible refine gate_callee (f := 54) rfl ?_); refine zG (some 46) Tryd.func54 #[.slice Ao30 x11_2.length co30] ?_; (with_reducible refine (spec_l05Set.calls k2 _ _ x11_2 t165 false _ ?side1 ?side2 A26.out).mono ?_); (case side1 => exact zI (Kd.R_reads' HO_11.out).2.2); (case side2 => exact (Kd.R_reads' HO_11.out).2.1); rintro e w31 ⟨v167, rfl, ho0, hb⟩; refine ⟨_, rfl, ?_⟩; replace HO_11 := Aside0.mk (Kd.R_below (zo HO_11.out) hb); have HO168 := Aside0.mk (Kd.R_lower (Kd.R_new' ho0 (Kd.R_lt (zo HO_10.out))) (below_size (zw HB))); replace HO_10 := Aside0.mk (Kd.R_elder' (zo HO_10.out) (Kd.R_base ho0) hb); replace HB := zs HB hb; clear ho0 hb))
         go_ret2
         exact ⟨_, ze, zo (Kd.R_mono HO_10.out (fun _ hk => trivial)), zw HB⟩
 ·rw [if_neg c5] at H
  exact absurd H (by simp)

/-! ### spec_SetAdd: function 10 -/
def spec_SetAdd.f (k : Nat) (l0 : List (S40)) (a1 : Int) (a2 : Int) : Option ((List (S40)) × Bool) := (spec_l05Put.f k l0 a1 a2 true).bind fun bt169 => (some (bt169.1, bt169.2))
theorem spec_SetAdd.mono : ∀ a0 a1 a2 k, LeO (spec_SetAdd.f k a0 a1 a2) (spec_SetAdd.f (k + 1) a0 a1 a2) := by
 intro a0 a1 a2 k
 unfold spec_SetAdd.f
 repeat' first
   | (with_reducible exact spec_l05Put.mono _ _ _ _ _)
   | (with_reducible exact LeO.refl _)
   | (with_reducible exact LeO.none _)
   | (with_reducible refine LeO.ite ?_ ?_)
   | (with_reducible refine LeO.bind ?_ (fun _ => ?_))
   | exact spec_l05Put.mono _ _ _ _ _
   | exact LeO.none _
   | refine LeO.ite ?_ ?_
   | refine LeO.bind ?_ (fun _ => ?_)
set_option maxHeartbeats 8000000 in
set_option maxRecDepth 100000 in
theorem spec_SetAdd.calls (k : Nat) (A0 : Option Addr) (c0 : Nat) (l0 : List (S40)) (a1 : Int) (a2 : Int) (r1 : List (S40)) (r2 : Bool) (w : World) (hr0 : Kd.C k40 w A0 l0.length l0) (hc0 : l0.length ≤ c0) (h : spec_SetAdd.f k l0 a1 a2 = some (r1, r2)) :
  Calls Tryd.prog 10 #[.slice A0 l0.length c0, .int .i64 a1, .int .i64 a2] w fun e w' => ∃ v0_ : Value, e = .returned (.tuple #[v0_, .bool r2]) ∧ Kd.R k40 40 w' w.heap.size (fun _ => True) v0_ r1 ∧ Below w.heap.size w w' := by
 have HR0 := Aside0.mk hr0
 have HC0 := Aside0.mk hc0
 clear hr0 hc0
 have HB := Aside0.mk (Below.refl w.heap.size w)
 have H : ((spec_l05Put.f k l0 a1 a2 true).bind fun bt169 => (some (bt169.1, bt169.2))) = some (r1, r2) := h
 clear h
 replace H := Option.bind_eq_some_iff.mp H
 obtain ⟨⟨t169, t170⟩, A40, H⟩ := H
 replace H : (some (t169, t170)) = some (r1, r2) := H
 have A4 := Aside0.mk A40
 clear A40
 simp only [Option.some.injEq, Prod.mk.injEq] at H
 obtain ⟨rfl, rfl⟩ := H
 go_enter Tryd.func10, Tryd.ntmps10
 go_wp2_with (first | ((with_reducible refine gate_callee (f := 42) rfl ?_); refine zG (some 11) Tryd.func42 #[.slice A0 l0.length c0, .int .i64 a1, .int .i64 a2, .bool true] ?_; (with_reducible refine (spec_l05Put.calls k _ _ l0 a1 a2 true t169 t170 _ ?side1 ?side2 A4.out).mono ?_); (case side1 => exact zI HR0.out); (case side2 => exact HC0.out); rintro e w5 ⟨v171, rfl, ho0, hb⟩; refine ⟨_, rfl, ?_⟩; have HO172 := Aside0.mk (Kd.R_lower ho0 (below_size (zw HB))); replace HB := zs HB hb; clear ho0 hb))
 go_ret2
 exact ⟨_, ze, zo HO172.out, zw HB⟩

end Go.Proofs.YthngecooaddddaaDoor.PFnSetsTold
