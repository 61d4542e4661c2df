import Derived.Test.YthngecooaddddaaDoorQFnSetsToldx0
import Derived.Test.YthngecooaddddaaDoorQFnSetsToldx3
import Derived.Test.YthngecooaddddaaDoorQFnSetsToldx4
namespace Go.Proofs.YthngecooaddddaaDoor.PFnSetsTold
open Go.RowKit Go.Proofs.YthngecooaddddaaDoorW.PrintWords Go.Proofs.YthngecooaddddaaDoorW.PrintLast Go.Proofs.YthngecooaddddaaDoorW.PrintMore
attribute [local go_sem] max2_int min2_int max_two min_two max_three min_three max_four min_four   -- for this text's walks alone
set_option linter.unusedVariables false
set_option linter.unusedSimpArgs false

/-! ### spec_l05Two: function 45 -/
mutual
def spec_l05Two.j0 : Nat → List (S40) → List (S40) → Bool → Bool → Option ((List (S40)) × Bool)
 | 0, _, _, _, _ => none
 | k + 1, x0, x1, x2, x18 => if x18 = true then (some ((([] : List (S40))), false)) else ((spec_l05Bits.f k x0).bind fun t322 => ((spec_l05Bits.f k x1).bind fun t325 => (spec_l05Two.l0 k x2 t322 t325 0)))
def spec_l05Two.l0 : Nat → Bool → List Bool → List Bool → Int → Option ((List (S40)) × Bool)
 | 0, _, _, _, _ => none
 | k + 1, x2, x8, x9, x10 => if x10 < (x8.length : Int) then (if x2 = true then (if 0 ≤ x10 then (if rdOf false x8 x10 = true then (if x10 < (x9.length : Int) then (spec_l05Two.l0 k x2 (x8.set (x10 : Int).toNat (rdOf false x9 x10)) x9 (wrap64 (x10 + 1))) else (none)) else (spec_l05Two.l0 k x2 (x8.set (x10 : Int).toNat false) x9 (wrap64 (x10 + 1)))) else (none)) else (if 0 ≤ x10 then (if rdOf false x8 x10 = true then (spec_l05Two.l0 k x2 (x8.set (x10 : Int).toNat true) x9 (wrap64 (x10 + 1))) else (if x10 < (x9.length : Int) then (spec_l05Two.l0 k x2 (x8.set (x10 : Int).toNat (rdOf false x9 x10)) x9 (wrap64 (x10 + 1))) else (none))) else (none))) else ((spec_l05Set.f k x8).bind fun bt336 => (some (bt336.1, bt336.2)))
end
def spec_l05Two.f (k : Nat) (l0 : List (S40)) (l1 : List (S40)) (a2 : Bool) : Option ((List (S40)) × Bool) := (spec_SetOk.f k l0).bind fun t317 => (if t317 = true then ((spec_SetOk.f k l1).bind fun t318 => (spec_l05Two.j0 k l0 l1 a2 (!t318))) else (spec_l05Two.j0 k l0 l1 a2 true))
theorem spec_l05Two.mono_l : ∀ k, (∀ y0 y1 y2 y3, LeO (spec_l05Two.j0 k y0 y1 y2 y3) (spec_l05Two.j0 (k + 1) y0 y1 y2 y3)) ∧ (∀ y0 y1 y2 y3, LeO (spec_l05Two.l0 k y0 y1 y2 y3) (spec_l05Two.l0 (k + 1) y0 y1 y2 y3))
 | 0 => ⟨fun _ _ _ _ r h => by simp [spec_l05Two.j0] at h, fun _ _ _ _ r h => by simp [spec_l05Two.l0] at h⟩
 | k + 1 => by
  obtain ⟨ih0, ih1⟩ := spec_l05Two.mono_l k
  refine ⟨?_, ?_⟩
  ·intro y0 y1 y2 y3
   unfold spec_l05Two.j0
   repeat' first
   | (with_reducible exact ih0 _ _ _ _)
   | (with_reducible exact ih1 _ _ _ _)
   | (with_reducible exact spec_SetOk.mono _ _)
   | (with_reducible exact spec_l05Bits.mono _ _)
   | (with_reducible exact spec_l05Set.mono _ _)
   | (with_reducible exact LeO.refl _)
   | (with_reducible exact LeO.none _)
   | (with_reducible refine LeO.ite ?_ ?_)
   | (with_reducible refine LeO.bind ?_ (fun _ => ?_))
   | exact ih0 _ _ _ _
   | exact ih1 _ _ _ _
   | exact spec_SetOk.mono _ _
   | exact spec_l05Bits.mono _ _
   | exact spec_l05Set.mono _ _
   | exact LeO.none _
   | refine LeO.ite ?_ ?_
   | refine LeO.bind ?_ (fun _ => ?_)
  ·intro y0 y1 y2 y3
   unfold spec_l05Two.l0
   repeat' first
   | (with_reducible exact ih0 _ _ _ _)
   | (with_reducible exact ih1 _ _ _ _)
   | (with_reducible exact spec_SetOk.mono _ _)
   | (with_reducible exact spec_l05Bits.mono _ _)
   | (with_reducible exact spec_l05Set.mono _ _)
   | (with_reducible exact LeO.refl _)
   | (with_reducible exact LeO.none _)
   | (with_reducible refine LeO.ite ?_ ?_)
   | (with_reducible refine LeO.bind ?_ (fun _ => ?_))
   | exact ih0 _ _ _ _
   | exact ih1 _ _ _ _
   | exact spec_SetOk.mono _ _
   | exact spec_l05Bits.mono _ _
   | exact spec_l05Set.mono _ _
   | exact LeO.none _
   | refine LeO.ite ?_ ?_
   | refine LeO.bind ?_ (fun _ => ?_)
theorem spec_l05Two.mono : ∀ a0 a1 a2 k, LeO (spec_l05Two.f k a0 a1 a2) (spec_l05Two.f (k + 1) a0 a1 a2) := by
 intro a0 a1 a2 k
 obtain ⟨ih0, ih1⟩ := spec_l05Two.mono_l k
 unfold spec_l05Two.f
 repeat' first
   | (with_reducible exact ih0 _ _ _ _)
   | (with_reducible exact ih1 _ _ _ _)
   | (with_reducible exact spec_SetOk.mono _ _)
   | (with_reducible exact spec_l05Bits.mono _ _)
   | (with_reducible exact spec_l05Set.mono _ _)
   | (with_reducible exact LeO.refl _)
   | (with_reducible exact LeO.none _)
   | (with_reducible refine LeO.ite ?_ ?_)
   | (with_reducible refine LeO.bind ?_ (fun _ => ?_))
   | exact ih0 _ _ _ _
   | exact ih1 _ _ _ _
   | exact spec_SetOk.mono _ _
   | exact spec_l05Bits.mono _ _
   | exact spec_l05Set.mono _ _
   | exact LeO.none _
   | refine LeO.ite ?_ ?_
   | refine LeO.bind ?_ (fun _ => ?_)
set_option maxHeartbeats 8000000 in
set_option maxRecDepth 100000 in
theorem spec_l05Two.calls (k : Nat) (A0 : Option Addr) (c0 : Nat) (l0 : List (S40)) (A1 : Option Addr) (c1 : Nat) (l1 : List (S40)) (a2 : Bool) (r1 : List (S40)) (r2 : Bool) (w : World) (hr0 : Kd.C k40 w A0 l0.length l0) (hc0 : l0.length ≤ c0) (hr1 : Kd.C k40 w A1 l1.length l1) (hc1 : l1.length ≤ c1) (h : spec_l05Two.f k l0 l1 a2 = some (r1, r2)) :
  Calls Tryd.prog 45 #[.slice A0 l0.length c0, .slice A1 l1.length c1, .bool a2] w fun e w' => ∃ v0_ : Value, e = .returned (.tuple #[v0_, .bool r2]) ∧ Kd.R k40 40 w' w.heap.size (fun _ => True) v0_ r1 ∧ Below w.heap.size w w' := by
 have HR0 := Aside0.mk hr0
 have HC0 := Aside0.mk hc0
 clear hr0 hc0
 have HR1 := Aside0.mk hr1
 have HC1 := Aside0.mk hc1
 clear hr1 hc1
 have HB := Aside0.mk (Below.refl w.heap.size w)
 have H : ((spec_SetOk.f k l0).bind fun t317 => (if t317 = true then ((spec_SetOk.f k l1).bind fun t318 => (spec_l05Two.j0 k l0 l1 a2 (!t318))) else (spec_l05Two.j0 k l0 l1 a2 true))) = some (r1, r2) := h
 clear h
 have HC4 := Aside0.mk H
 clear H
 go_enter Tryd.func45, Tryd.ntmps45
 go_upto_region 1 with (fail)
 go_cut [18] (fun v18 wc => ∃ (kq : Nat) (x18_3 : Bool), v18 = .bool x18_3 ∧ Aside0 (spec_l05Two.j0 kq l0 l1 a2 x18_3 = some (r1, r2)) ∧ Aside0 (kq ≤ k) ∧ Aside0 (Below w.heap.size w wc))
 case first =>
  have H := HC4.out
  clear HC4
  replace H := Option.bind_eq_some_iff.mp H
  obtain ⟨t317, A50, H⟩ := H
  have A5 := Aside0.mk A50
  clear A50
  by_cases c6 : t317 = true
  ·subst c6
   rw [if_pos rfl] at H
   replace H := Option.bind_eq_some_iff.mp H
   obtain ⟨t318, A70, H⟩ := H
   have A7 := Aside0.mk A70
   clear A70
   have H' := Aside0.mk H
   clear H
   go_wp2_with (first | ((with_reducible refine gate_callee (f := 21) rfl ?_); refine zG (some 12) Tryd.func21 #[.slice A0 l0.length c0] ?_; (with_reducible refine (spec_SetOk.calls k _ _ l0 true _ ?side1 ?side2 A5.out).mono ?_); (case side1 => exact zI (Kd.C_below HR0.out HB.out)); (case side2 => exact HC0.out); rintro e w8 ⟨rfl, hb⟩; refine ⟨_, rfl, ?_⟩; replace HB := zs HB hb; clear hb) | (go_at_call 21; (with_reducible refine (spec_SetOk.calls k _ _ l1 t318 _ ?side1 ?side2 A7.out).mono ?_); (case side1 => exact zI (Kd.C_below HR1.out HB.out)); (case side2 => exact HC1.out); rintro e w9 ⟨rfl, hb⟩; replace HB := zs HB hb; clear hb))
   go_meet
   case rel => exact ⟨_, (!t318), zf, H', ⟨by first | omega | exact Nat.le_refl _⟩, ⟨zw HB⟩⟩
  ·replace c6 := Bool.eq_false_iff.mpr c6
   subst c6
   rw [if_neg (show ¬ (false = true) by decide)] at H
   have H' := Aside0.mk H
   clear H
   go_wp2_with (first | ((with_reducible refine gate_callee (f := 21) rfl ?_); refine zG (some 12) Tryd.func21 #[.slice A0 l0.length c0] ?_; (with_reducible refine (spec_SetOk.calls k _ _ l0 false _ ?side1 ?side2 A5.out).mono ?_); (case side1 => exact zI (Kd.C_below HR0.out HB.out)); (case side2 => exact HC0.out); rintro e w10 ⟨rfl, hb⟩; refine ⟨_, rfl, ?_⟩; replace HB := zs HB hb; clear hb))
   go_meet
   case rel => exact ⟨_, (true), zf, H', ⟨by first | omega | exact Nat.le_refl _⟩, ⟨zw HB⟩⟩
 case rest =>
  clear HC4
  try clear c1
  try clear c2
  try clear p2
  try clear c4
  try clear c6
  obtain ⟨kq, x18_3, rfl, HA, HJ3, HB⟩ := hcut
  cases kq with
  | zero => exact absurd HA.out (by simp [spec_l05Two.j0])
  | succ kj3 =>
   have H := HA.out
   clear HA
   simp only [spec_l05Two.j0] at H
   by_cases c11 : x18_3 = true
   ·subst c11
    rw [if_pos rfl] at H
    obtain ⟨y319, hy319⟩ : ∃ y_ : List (S40), y_ = (([] : List (S40))) := ⟨_, rfl⟩
    replace H : (some (y319, false)) = some (r1, r2) := by first | (rw [hy319]; with_reducible exact H) | (have H2_ := (Option.bind_some _ _).symm.trans H; rw [hy319]; with_reducible exact H2_) | (have H2_ := (Option.bind_some _ _).symm.trans H; with_reducible exact H2_) | with_reducible exact H | (rw [hy319]; exact H) | exact H
    have Ny319 := Aside0.mk hy319
    clear hy319
    simp only [Option.some.injEq, Prod.mk.injEq] at H
    obtain ⟨rfl, rfl⟩ := H
    go_wp2_with (first | ((with_reducible refine gate_dst (N := 19) rfl ?_); refine Kd.R_lit k40 _ 40 ?hg (N := 19) ?hd (xs := ([] : List (S40))) (inner := []) (ok := fun _ => True) (okp := fun _ => True) ?hr ?hp (fun _ hk => hk) trivial (Below.refl _ _) (Nat.le_refl _) (by simp) ?_; (case hd => rfl); (case hg => rfl); (case hr => first | (go_simp; done) | (go_simp; rfl)); (case hp => exact (Reps.none _ _)); intro v320 w12 ho13 hb hg_ hnew_; clear hg_ hnew_; (first | rw [← Ny319.out] at ho13 | (simp only [Int.reduceToNat] at ho13; rw [← Ny319.out] at ho13)); have HO321 := Aside0.mk (Kd.R_lower ho13 (below_size (zw HB))); replace HB := zs HB hb; clear hb ho13))
    go_ret2
    exact ⟨_, ze, zo HO321.out, zw HB⟩
   ·replace c11 := Bool.eq_false_iff.mpr c11
    subst c11
    rw [if_neg (show ¬ (false = true) by decide)] at H
    replace H := Option.bind_eq_some_iff.mp H
    obtain ⟨t322, A140, H⟩ := H
    have A14 := Aside0.mk A140
    clear A140
    replace H := Option.bind_eq_some_iff.mp H
    obtain ⟨t325, A150, H⟩ := H
    have A15 := Aside0.mk A150
    clear A150
    have H' := Aside0.mk H
    clear H
    go_wp2_with (first | ((with_reducible refine gate_callee (f := 61) rfl ?_); refine zG (some 21) Tryd.func61 #[.slice A0 l0.length c0] ?_; (with_reducible refine (spec_l05Bits.calls kj3 _ _ l0 t322 _ ?side1 ?side2 A14.out).mono ?_); (case side1 => exact zI (Kd.C_below HR0.out HB.out)); (case side2 => exact HC0.out); rintro e w16 ⟨v323, rfl, ho0, hb⟩; refine ⟨_, rfl, ?_⟩; have HO324 := Aside0.mk (Kd.R_lower ho0 (below_size (zw HB))); replace HB := zs HB hb; clear ho0 hb) | ((with_reducible refine gate_callee (f := 61) rfl ?_); refine zG (some 23) Tryd.func61 #[.slice A1 l1.length c1] ?_; (with_reducible refine (spec_l05Bits.calls kj3 _ _ l1 t325 _ ?side1 ?side2 A15.out).mono ?_); (case side1 => exact zI (Kd.C_below HR1.out HB.out)); (case side2 => exact HC1.out); rintro e w17 ⟨v326, rfl, ho0, hb⟩; refine ⟨_, rfl, ?_⟩; have HO327 := Aside0.mk (Kd.R_lower (Kd.R_new' ho0 (Kd.R_lt (zo HO324.out))) (below_size (zw HB))); replace HO324 := Aside0.mk (Kd.R_elder' (zo HO324.out) (Kd.R_base ho0) hb); replace HB := zs HB hb; clear ho0 hb))
    go_loopg [10] kj3 (fun kq v10 w' => ∃ (x8_2 : List Bool) (x10_2 : Int), v10 = .int .i64 x10_2 ∧ Aside0 (spec_l05Two.l0 kq a2 x8_2 t325 x10_2 = some (r1, r2)) ∧ Aside0 (kq ≤ kj3) ∧ Aside0 (Kd.R Kd.bool 4 w' w.heap.size (fun k_ => some k_ ≠ (v326 : Value).ownBlock) v323 x8_2) ∧ Aside0 (Kd.R Kd.bool 4 w' w.heap.size (fun k_ => some k_ ≠ (v323 : Value).ownBlock) v326 t325) ∧ Aside0 (Below w.heap.size w w'))
    case atStart => exact ⟨(t322), (0), zf, H', ⟨Nat.le_refl _⟩, ⟨zo (Kd.R_mono HO324.out (fun _ hk => hk.2))⟩, ⟨zo (Kd.R_mono HO327.out (fun _ hk => hk.2))⟩, ⟨zw HB⟩⟩
    case round =>
     clear H'
     try clear c1
     try clear c2
     try clear p2
     try clear c4
     try clear c6
     try clear c11
     try clear p2
     obtain ⟨x8_2, x10_2, rfl, HA, HK2, HO_8, HO_9, HB⟩ := hrel
     cases gk with
     | zero => exact absurd HA.out (by simp [spec_l05Two.l0])
     | succ k2 =>
      have H := HA.out
      clear HA
      simp only [spec_l05Two.l0] at H
      by_cases c18 : x10_2 < (x8_2.length : Int)
      ·rw [if_pos c18] at H
       have c18b0 : decide (x10_2 < (x8_2.length : Int)) = true := decide_eq_true c18
       clear c18
       by_cases c19 : a2 = true
       ·subst c19
        rw [if_pos rfl] at H
        by_cases c20 : 0 ≤ x10_2
        ·rw [if_pos c20] at H
         have c20b0 : decide (0 ≤ x10_2) = true := decide_eq_true c20
         clear c20
         obtain ⟨bq21, hbq21⟩ : ∃ b_ : Bool, b_ = (rdOf false x8_2 x10_2) := ⟨_, rfl⟩
         replace H : (if bq21 = true then (if x10_2 < (t325.length : Int) then (spec_l05Two.l0 k2 true (x8_2.set (x10_2 : Int).toNat (rdOf false t325 x10_2)) t325 (wrap64 (x10_2 + 1))) else (none)) else (spec_l05Two.l0 k2 true (x8_2.set (x10_2 : Int).toNat false) t325 (wrap64 (x10_2 + 1)))) = some (r1, r2) := by rw [← hbq21] at H; exact H
         have Nbq21 := Aside0.mk hbq21
         clear hbq21
         by_cases c22 : bq21 = true
         ·subst c22
          rw [if_pos rfl] at H
          by_cases c23 : x10_2 < (t325.length : Int)
          ·rw [if_pos c23] at H
           have c23b0 : decide (x10_2 < (t325.length : Int)) = true := decide_eq_true c23
           clear c23
           obtain ⟨y330, hy330⟩ : ∃ y_ : List Bool, y_ = (x8_2.set (x10_2 : Int).toNat (rdOf false t325 x10_2)) := ⟨_, rfl⟩
           replace H : (spec_l05Two.l0 k2 true y330 t325 (wrap64 (x10_2 + 1))) = some (r1, r2) := by first | (rw [hy330]; with_reducible exact H) | (have H2_ := (Option.bind_some _ _).symm.trans H; rw [hy330]; with_reducible exact H2_) | (have H2_ := (Option.bind_some _ _).symm.trans H; with_reducible exact H2_) | with_reducible exact H | (rw [hy330]; exact H) | exact H
           have Ny330 := Aside0.mk hy330
           clear hy330
           have H' := Aside0.mk H
           clear H
           obtain ⟨Ao25, co25, eo25⟩ := Kd.R_slice HO_8.out
           subst eo25
           have p328 : 0 ≤ (x10_2 : Int) := of_decide_eq_true za
           have q328 : x10_2 < (x8_2.length : Int) := of_decide_eq_true za
           obtain ⟨ad328, e328, hx328_0⟩ := Kd.at_bool (Kd.R_reads' HO_8.out).2.2 x10_2 p328 q328
           (try rw [← Nbq21.out] at hx328_0)
           cases e328
           replace p328 := eq_true p328
           replace q328 := eq_true q328
           obtain ⟨Ao26, co26, eo26⟩ := Kd.R_slice HO_9.out
           subst eo26
           have p329 : 0 ≤ (x10_2 : Int) := of_decide_eq_true za
           have q329 : x10_2 < (t325.length : Int) := of_decide_eq_true za
           obtain ⟨ad329, e329, hx329_0⟩ := Kd.at_bool (Kd.R_reads' HO_9.out).2.2 x10_2 p329 q329
           (try rw [← Nbq21.out] at hx329_0)
           cases e329
           replace p329 := eq_true p329
           replace q329 := eq_true q329
           have p24 : 0 ≤ (x10_2 : Int) := of_decide_eq_true za
           have q24 : (x10_2 : Int) < ((x8_2.length : Int) : Int) := of_decide_eq_true za
           obtain ⟨go24, co24, eo24, gb24, gl24, cl24, HG24⟩ := Kd.R_form HO_8.out (by omega)
           (first | cases eo24 | (injection eo24 with ea_ en_ ec_; (first | subst ea_ | (injection ea_ with ea_; subst ea_)); subst ec_; clear en_))
           have GB24 := Aside0.mk gb24
           have GG24 := Aside0.mk HG24
           clear gb24 gl24 HG24
           (first | simp only [add_plain] at hx328_0 | skip)
           obtain ⟨hx24_0, hf24_0⟩ := Kd.R_celln false HO_8.out (x10_2 : Int) p24 q24
           replace p24 := eq_true p24
           replace q24 := eq_true q24
           have HP27 := Kd.R_putg HO_8.out (x10_2 : Int) (rdOf false t325 x10_2)
           go_wp2_with (first | ((with_reducible refine gate_store (t := 4) (p := 43) rfl ?_); refine store_event (t := 4) (p := 43) (v := ?vo_w28) (w1 := (wr.setCell ⟨go24, (x10_2 : Int).toNat, none⟩ (.bool (rdOf false t325 x10_2)))) ?hg ?ho ?hn ?hr ?_; (case ho => rfl); (case hg => rfl); (case hn => rfl); (case hr => first | (go_simp; done) | (go_simp; rfl)); intro w28 hw; have hg : wr.grownBy w28 (some go24) := (by rw [hw]; exact HP27.2); have hp_ : Kd.R Kd.bool 4 w28 w.heap.size (fun k_ => some k_ ≠ (.slice (some ad329) t325.length co26 : Value).ownBlock) (.slice (some ⟨go24, 0, none⟩) x8_2.length co25) y330 := (by rw [hw, Ny330.out]; exact HP27.1); clear HP27; replace HO_8 := Aside0.mk (hp_); replace HO_9 := Aside0.mk (Kd.R_after (v := (.slice (some ⟨go24, 0, none⟩) x8_2.length co25)) (v1 := (.slice (some ⟨go24, 0, none⟩) x8_2.length co25)) (ok := (fun _ => True)) (zo (Kd.R_mono HO_9.out (fun _ hk => ⟨trivial, hk⟩))) hg (.inl rfl)); replace HB := Aside0.mk ((by rw [hw]; exact below_set (HB.out) GB24.out : Below w.heap.size w w28)); clear hg hw hp_))
           go_roundg k2
           case measure => have := HJ3.out; have := HK2.out; omega
           case rel => exact ⟨(y330), (wrap64 (x10_2 + 1)), zf, H', ⟨by have := HJ3.out; have := HK2.out; omega⟩, ⟨zo HO_8.out⟩, ⟨zo (Kd.R_mono HO_9.out (fun _ hk => hk.2))⟩, ⟨zw HB⟩⟩
          ·rw [if_neg c23] at H
           exact absurd H (by simp)
         ·replace c22 := Bool.eq_false_iff.mpr c22
          subst c22
          rw [if_neg (show ¬ (false = true) by decide)] at H
          obtain ⟨y331, hy331⟩ : ∃ y_ : List Bool, y_ = (x8_2.set (x10_2 : Int).toNat false) := ⟨_, rfl⟩
          replace H : (spec_l05Two.l0 k2 true y331 t325 (wrap64 (x10_2 + 1))) = some (r1, r2) := by first | (rw [hy331]; with_reducible exact H) | (have H2_ := (Option.bind_some _ _).symm.trans H; rw [hy331]; with_reducible exact H2_) | (have H2_ := (Option.bind_some _ _).symm.trans H; with_reducible exact H2_) | with_reducible exact H | (rw [hy331]; exact H) | exact H
          have Ny331 := Aside0.mk hy331
          clear hy331
          have H' := Aside0.mk H
          clear H
          obtain ⟨Ao30, co30, eo30⟩ := Kd.R_slice HO_8.out
          subst eo30
          have p328 : 0 ≤ (x10_2 : Int) := of_decide_eq_true za
          have q328 : x10_2 < (x8_2.length : Int) := of_decide_eq_true za
          obtain ⟨ad328, e328, hx328_0⟩ := Kd.at_bool (Kd.R_reads' HO_8.out).2.2 x10_2 p328 q328
          (try rw [← Nbq21.out] at hx328_0)
          cases e328
          replace p328 := eq_true p328
          replace q328 := eq_true q328
          have p29 : 0 ≤ (x10_2 : Int) := of_decide_eq_true za
          have q29 : (x10_2 : Int) < ((x8_2.length : Int) : Int) := of_decide_eq_true za
          obtain ⟨go29, co29, eo29, gb29, gl29, cl29, HG29⟩ := Kd.R_form HO_8.out (by omega)
          (first | cases eo29 | (injection eo29 with ea_ en_ ec_; (first | subst ea_ | (injection ea_ with ea_; subst ea_)); subst ec_; clear en_))
          have GB29 := Aside0.mk gb29
          have GG29 := Aside0.mk HG29
          clear gb29 gl29 HG29
          (first | simp only [add_plain] at hx328_0 | skip)
          obtain ⟨hx29_0, hf29_0⟩ := Kd.R_celln false HO_8.out (x10_2 : Int) p29 q29
          replace p29 := eq_true p29
          replace q29 := eq_true q29
          have HP31 := Kd.R_putg HO_8.out (x10_2 : Int) false
          go_wp2_with (first | ((with_reducible refine gate_store (t := 4) (p := 43) rfl ?_); refine store_event (t := 4) (p := 43) (v := ?vo_w32) (w1 := (wr.setCell ⟨go29, (x10_2 : Int).toNat, none⟩ (.bool false))) ?hg ?ho ?hn ?hr ?_; (case ho => rfl); (case hg => rfl); (case hn => rfl); (case hr => first | (go_simp; done) | (go_simp; rfl)); intro w32 hw; have hg : wr.grownBy w32 (some go29) := (by rw [hw]; exact HP31.2); have hp_ : Kd.R Kd.bool 4 w32 w.heap.size (fun k_ => some k_ ≠ (v326 : Value).ownBlock) (.slice (some ⟨go29, 0, none⟩) x8_2.length co30) y331 := (by rw [hw, Ny331.out]; exact HP31.1); clear HP31; replace HO_8 := Aside0.mk (hp_); replace HO_9 := Aside0.mk (Kd.R_after (v := (.slice (some ⟨go29, 0, none⟩) x8_2.length co30)) (v1 := (.slice (some ⟨go29, 0, none⟩) x8_2.length co30)) (ok := (fun _ => True)) (zo (Kd.R_mono HO_9.out (fun _ hk => ⟨trivial, hk⟩))) hg (.inl rfl)); replace HB := Aside0.mk ((by rw [hw]; exact below_set (HB.out) GB29.out : Below w.heap.size w w32)); clear hg hw hp_))
          go_roundg k2
          case measure => have := HJ3.out; have := HK2.out; omega
          case rel => exact ⟨(y331), (wrap64 (x10_2 + 1)), zf, H', ⟨by have := HJ3.out; have := HK2.out; omega⟩, ⟨zo HO_8.out⟩, ⟨zo (Kd.R_mono HO_9.out (fun _ hk => hk.2))⟩, ⟨zw HB⟩⟩
        ·rw [if_neg c20] at H
         exact absurd H (by simp)
       ·replace c19 := Bool.eq_false_iff.mpr c19
        subst c19
        rw [if_neg (show ¬ (false = true) by decide)] at H
        by_cases c33 : 0 ≤ x10_2
        ·rw [if_pos c33] at H
         have c33b0 : decide (0 ≤ x10_2) = true := decide_eq_true c33
         clear c33
         obtain ⟨bq34, hbq34⟩ : ∃ b_ : Bool, b_ = (rdOf false x8_2 x10_2) := ⟨_, rfl⟩
         replace H : (if bq34 = true then (spec_l05Two.l0 k2 false (x8_2.set (x10_2 : Int).toNat true) t325 (wrap64 (x10_2 + 1))) else (if x10_2 < (t325.length : Int) then (spec_l05Two.l0 k2 false (x8_2.set (x10_2 : Int).toNat (rdOf false t325 x10_2)) t325 (wrap64 (x10_2 + 1))) else (none))) = some (r1, r2) := by rw [← hbq34] at H; exact H
         have Nbq34 := Aside0.mk hbq34
         clear hbq34
         by_cases c35 : bq34 = true
         ·subst c35
          rw [if_pos rfl] at H
          obtain ⟨y333, hy333⟩ : ∃ y_ : List Bool, y_ = (x8_2.set (x10_2 : Int).toNat true) := ⟨_, rfl⟩
          replace H : (spec_l05Two.l0 k2 false y333 t325 (wrap64 (x10_2 + 1))) = some (r1, r2) := by first | (rw [hy333]; with_reducible exact H) | (have H2_ := (Option.bind_some _ _).symm.trans H; rw [hy333]; with_reducible exact H2_) | (have H2_ := (Option.bind_some _ _).symm.trans H; with_reducible exact H2_) | with_reducible exact H | (rw [hy333]; exact H) | exact H
          have Ny333 := Aside0.mk hy333
          clear hy333
          have H' := Aside0.mk H
          clear H
          obtain ⟨Ao37, co37, eo37⟩ := Kd.R_slice HO_8.out
          subst eo37
          have p332 : 0 ≤ (x10_2 : Int) := of_decide_eq_true za
          have q332 : x10_2 < (x8_2.length : Int) := of_decide_eq_true za
          obtain ⟨ad332, e332, hx332_0⟩ := Kd.at_bool (Kd.R_reads' HO_8.out).2.2 x10_2 p332 q332
          (try rw [← Nbq34.out] at hx332_0)
          cases e332
          replace p332 := eq_true p332
          replace q332 := eq_true q332
          have p36 : 0 ≤ (x10_2 : Int) := of_decide_eq_true za
          have q36 : (x10_2 : Int) < ((x8_2.length : Int) : Int) := of_decide_eq_true za
          obtain ⟨go36, co36, eo36, gb36, gl36, cl36, HG36⟩ := Kd.R_form HO_8.out (by omega)
          (first | cases eo36 | (injection eo36 with ea_ en_ ec_; (first | subst ea_ | (injection ea_ with ea_; subst ea_)); subst ec_; clear en_))
          have GB36 := Aside0.mk gb36
          have GG36 := Aside0.mk HG36
          clear gb36 gl36 HG36
          (first | simp only [add_plain] at hx332_0 | skip)
          obtain ⟨hx36_0, hf36_0⟩ := Kd.R_celln false HO_8.out (x10_2 : Int) p36 q36
          replace p36 := eq_true p36
          replace q36 := eq_true q36
          have HP38 := Kd.R_putg HO_8.out (x10_2 : Int) true
          go_wp2_with (first | ((with_reducible refine gate_store (t := 4) (p := 56) rfl ?_); refine store_event (t := 4) (p := 56) (v := ?vo_w39) (w1 := (wr.setCell ⟨go36, (x10_2 : Int).toNat, none⟩ (.bool true))) ?hg ?ho ?hn ?hr ?_; (case ho => rfl); (case hg => rfl); (case hn => rfl); (case hr => first | (go_simp; done) | (go_simp; rfl)); intro w39 hw; have hg : wr.grownBy w39 (some go36) := (by rw [hw]; exact HP38.2); have hp_ : Kd.R Kd.bool 4 w39 w.heap.size (fun k_ => some k_ ≠ (v326 : Value).ownBlock) (.slice (some ⟨go36, 0, none⟩) x8_2.length co37) y333 := (by rw [hw, Ny333.out]; exact HP38.1); clear HP38; replace HO_8 := Aside0.mk (hp_); replace HO_9 := Aside0.mk (Kd.R_after (v := (.slice (some ⟨go36, 0, none⟩) x8_2.length co37)) (v1 := (.slice (some ⟨go36, 0, none⟩) x8_2.length co37)) (ok := (fun _ => True)) (zo (Kd.R_mono HO_9.out (fun _ hk => ⟨trivial, hk⟩))) hg (.inl rfl)); replace HB := Aside0.mk ((by rw [hw]; exact below_set (HB.out) GB36.out : Below w.heap.size w w39)); clear hg hw hp_))
          go_roundg k2
          case measure => have := HJ3.out; have := HK2.out; omega
          case rel => exact ⟨(y333), (wrap64 (x10_2 + 1)), zf, H', ⟨by have := HJ3.out; have := HK2.out; omega⟩, ⟨zo HO_8.out⟩, ⟨zo (Kd.R_mono HO_9.out (fun _ hk => hk.2))⟩, ⟨zw HB⟩⟩
         ·replace c35 := Bool.eq_false_iff.mpr c35
          subst c35
          rw [if_neg (show ¬ (false = true) by decide)] at H
          by_cases c40 : x10_2 < (t325.length : Int)
          ·rw [if_pos c40] at H
           have c40b0 : decide (x10_2 < (t325.length : Int)) = true := decide_eq_true c40
           clear c40
           obtain ⟨y335, hy335⟩ : ∃ y_ : List Bool, y_ = (x8_2.set (x10_2 : Int).toNat (rdOf false t325 x10_2)) := ⟨_, rfl⟩
           replace H : (spec_l05Two.l0 k2 false y335 t325 (wrap64 (x10_2 + 1))) = some (r1, r2) := by first | (rw [hy335]; with_reducible exact H) | (have H2_ := (Option.bind_some _ _).symm.trans H; rw [hy335]; with_reducible exact H2_) | (have H2_ := (Option.bind_some _ _).symm.trans H; with_reducible exact H2_) | with_reducible exact H | (rw [hy335]; exact H) | exact H
           have Ny335 := Aside0.mk hy335
           clear hy335
           have H' := Aside0.mk H
           clear H
           obtain ⟨Ao42, co42, eo42⟩ := Kd.R_slice HO_8.out
           subst eo42
           have p332 : 0 ≤ (x10_2 : Int) := of_decide_eq_true za
           have q332 : x10_2 < (x8_2.length : Int) := of_decide_eq_true za
           obtain ⟨ad332, e332, hx332_0⟩ := Kd.at_bool (Kd.R_reads' HO_8.out).2.2 x10_2 p332 q332
           (try rw [← Nbq34.out] at hx332_0)
           cases e332
           replace p332 := eq_true p332
           replace q332 := eq_true q332
           obtain ⟨Ao43, co43, eo43⟩ := Kd.R_slice HO_9.out
           subst eo43
           have p334 : 0 ≤ (x10_2 : Int) := of_decide_eq_true za
           have q334 : x10_2 < (t325.length : Int) := of_decide_eq_true za
           obtain ⟨ad334, e334, hx334_0⟩ := Kd.at_bool (Kd.R_reads' HO_9.out).2.2 x10_2 p334 q334
           (try rw [← Nbq34.out] at hx334_0)
           cases e334
           replace p334 := eq_true p334
           replace q334 := eq_true q334
           have p41 : 0 ≤ (x10_2 : Int) := of_decide_eq_true za
           have q41 : (x10_2 : Int) < ((x8_2.length : Int) : Int) := of_decide_eq_true za
           obtain ⟨go41, co41, eo41, gb41, gl41, cl41, HG41⟩ := Kd.R_form HO_8.out (by omega)
           (first | cases eo41 | (injection eo41 with ea_ en_ ec_; (first | subst ea_ | (injection ea_ with ea_; subst ea_)); subst ec_; clear en_))
           have GB41 := Aside0.mk gb41
           have GG41 := Aside0.mk HG41
           clear gb41 gl41 HG41
           (first | simp only [add_plain] at hx332_0 | skip)
           obtain ⟨hx41_0, hf41_0⟩ := Kd.R_celln false HO_8.out (x10_2 : Int) p41 q41
           replace p41 := eq_true p41
           replace q41 := eq_true q41
           have HP44 := Kd.R_putg HO_8.out (x10_2 : Int) (rdOf false t325 x10_2)
           go_wp2_with (first | ((with_reducible refine gate_store (t := 4) (p := 56) rfl ?_); refine store_event (t := 4) (p := 56) (v := ?vo_w45) (w1 := (wr.setCell ⟨go41, (x10_2 : Int).toNat, none⟩ (.bool (rdOf false t325 x10_2)))) ?hg ?ho ?hn ?hr ?_; (case ho => rfl); (case hg => rfl); (case hn => rfl); (case hr => first | (go_simp; done) | (go_simp; rfl)); intro w45 hw; have hg : wr.grownBy w45 (some go41) := (by rw [hw]; exact HP44.2); have hp_ : Kd.R Kd.bool 4 w45 w.heap.size (fun k_ => some k_ ≠ (.slice (some ad334) t325.length co43 : Value).ownBlock) (.slice (some ⟨go41, 0, none⟩) x8_2.length co42) y335 := (by rw [hw, Ny335.out]; exact HP44.1); clear HP44; replace HO_8 := Aside0.mk (hp_); replace HO_9 := Aside0.mk (Kd.R_after (v := (.slice (some ⟨go41, 0, none⟩) x8_2.length co42)) (v1 := (.slice (some ⟨go41, 0, none⟩) x8_2.length co42)) (ok := (fun _ => True)) (zo (Kd.R_mono HO_9.out (fun _ hk => ⟨trivial, hk⟩))) hg (.inl rfl)); replace HB := Aside0.mk ((by rw [hw]; exact below_set (HB.out) GB41.out : Below w.heap.size w w45)); clear hg hw hp_))
           go_roundg k2
           case measure => have := HJ3.out; have := HK2.out; omega
           case rel => exact ⟨(y335), (wrap64 (x10_2 + 1)), zf, H', ⟨by have := HJ3.out; have := HK2.out; omega⟩, ⟨zo HO_8.out⟩, ⟨zo (Kd.R_mono HO_9.out (fun _ hk => hk.2))⟩, ⟨zw HB⟩⟩
          ·rw [if_neg c40] at H
           exact absurd H (by simp)
        ·rw [if_neg c33] at H
         exact absurd H (by simp)
      ·rw [if_neg c18] at H
       have c18b0 : decide (x10_2 < (x8_2.length : Int)) = false := decide_eq_false c18
       clear c18
       replace H := Option.bind_eq_some_iff.mp H
       obtain ⟨⟨t336, t337⟩, A460, H⟩ := H
       replace H : (some (t336, t337)) = some (r1, r2) := H
       have A46 := Aside0.mk A460
       clear A460
       simp only [Option.some.injEq, Prod.mk.injEq] at H
       obtain ⟨rfl, rfl⟩ := H
       obtain ⟨Ao47, co47, eo47⟩ := Kd.R_slice HO_8.out
       subst eo47
       go_wp2_with (first | ((with_reducible refine gate_callee (f := 54) rfl ?_); refine zG (some 58) Tryd.func54 #[.slice Ao47 x8_2.length co47] ?_; (with_reducible refine (spec_l05Set.calls k2 _ _ x8_2 t336 t337 _ ?side1 ?side2 A46.out).mono ?_); (case side1 => exact zI (Kd.R_reads' HO_8.out).2.2); (case side2 => exact (Kd.R_reads' HO_8.out).2.1); rintro e w48 ⟨v338, rfl, ho0, hb⟩; refine ⟨_, rfl, ?_⟩; replace HO_8 := Aside0.mk (Kd.R_below (zo HO_8.out) hb); replace HO_9 := Aside0.mk (Kd.R_below (zo HO_9.out) hb); have HO339 := Aside0.mk (Kd.R_lower ho0 (below_size (zw HB))); replace HB := zs HB hb; clear ho0 hb))
       go_ret2
       exact ⟨_, ze, zo HO339.out, zw HB⟩

/-! ### spec_SetJoin: function 15 -/
def spec_SetJoin.f (k : Nat) (l0 : List (S40)) (l1 : List (S40)) : Option ((List (S40)) × Bool) := (spec_l05Two.f k l0 l1 false).bind fun bt340 => (some (bt340.1, bt340.2))
theorem spec_SetJoin.mono : ∀ a0 a1 k, LeO (spec_SetJoin.f k a0 a1) (spec_SetJoin.f (k + 1) a0 a1) := by
 intro a0 a1 k
 unfold spec_SetJoin.f
 repeat' first
   | (with_reducible exact spec_l05Two.mono _ _ _ _)
   | (with_reducible exact LeO.refl _)
   | (with_reducible exact LeO.none _)
   | (with_reducible refine LeO.ite ?_ ?_)
   | (with_reducible refine LeO.bind ?_ (fun _ => ?_))
   | exact spec_l05Two.mono _ _ _ _
   | exact LeO.none _
   | refine LeO.ite ?_ ?_
   | refine LeO.bind ?_ (fun _ => ?_)
set_option maxHeartbeats 8000000 in
set_option maxRecDepth 100000 in
theorem spec_SetJoin.calls (k : Nat) (A0 : Option Addr) (c0 : Nat) (l0 : List (S40)) (A1 : Option Addr) (c1 : Nat) (l1 : List (S40)) (r1 : List (S40)) (r2 : Bool) (w : World) (hr0 : Kd.C k40 w A0 l0.length l0) (hc0 : l0.length ≤ c0) (hr1 : Kd.C k40 w A1 l1.length l1) (hc1 : l1.length ≤ c1) (h : spec_SetJoin.f k l0 l1 = some (r1, r2)) :
  Calls Tryd.prog 15 #[.slice A0 l0.length c0, .slice A1 l1.length c1] w fun e w' => ∃ v0_ : Value, e = .returned (.tuple #[v0_, .bool r2]) ∧ Kd.R k40 40 w' w.heap.size (fun _ => True) v0_ r1 ∧ Below w.heap.size w w' := by
 have HR0 := Aside0.mk hr0
 have HC0 := Aside0.mk hc0
 clear hr0 hc0
 have HR1 := Aside0.mk hr1
 have HC1 := Aside0.mk hc1
 clear hr1 hc1
 have HB := Aside0.mk (Below.refl w.heap.size w)
 have H : ((spec_l05Two.f k l0 l1 false).bind fun bt340 => (some (bt340.1, bt340.2))) = some (r1, r2) := h
 clear h
 replace H := Option.bind_eq_some_iff.mp H
 obtain ⟨⟨t340, t341⟩, A30, H⟩ := H
 replace H : (some (t340, t341)) = some (r1, r2) := H
 have A3 := Aside0.mk A30
 clear A30
 simp only [Option.some.injEq, Prod.mk.injEq] at H
 obtain ⟨rfl, rfl⟩ := H
 go_enter Tryd.func15, Tryd.ntmps15
 go_wp2_with (first | ((with_reducible refine gate_callee (f := 45) rfl ?_); refine zG (some 8) Tryd.func45 #[.slice A0 l0.length c0, .slice A1 l1.length c1, .bool false] ?_; (with_reducible refine (spec_l05Two.calls k _ _ l0 _ _ l1 false t340 t341 _ ?side1 ?side2 ?side3 ?side4 A3.out).mono ?_); (case side1 => exact zI HR0.out); (case side2 => exact HC0.out); (case side3 => exact zI HR1.out); (case side4 => exact HC1.out); rintro e w4 ⟨v342, rfl, ho0, hb⟩; refine ⟨_, rfl, ?_⟩; have HO343 := Aside0.mk (Kd.R_lower ho0 (below_size (zw HB))); replace HB := zs HB hb; clear ho0 hb))
 go_ret2
 exact ⟨_, ze, zo HO343.out, zw HB⟩

/-! ### spec_l01Figure: function 70 -/
def spec_l01Figure.f (a0 : Int) : Option (Int) := if a0 < 10 then (some ((wrap64 (48 + a0)) % 256)) else (some ((wrap64 ((wrap64 (97 + a0)) - 10)) % 256))
set_option maxHeartbeats 8000000 in
set_option maxRecDepth 100000 in
theorem spec_l01Figure.calls (a0 : Int) (r : Int) (w : World) (h : spec_l01Figure.f a0 = some r) :
  Calls Tryd.prog 70 #[.int .i64 a0] w fun e w' => e = .returned (.int .u8 r) ∧ Drawn0 w w' := by
 have H : (if a0 < 10 then (some ((wrap64 (48 + a0)) % 256)) else (some ((wrap64 ((wrap64 (97 + a0)) - 10)) % 256))) = some r := h
 clear h
 by_cases c2 : a0 < 10
 ·rw [if_pos c2] at H
  have c2b0 : decide (a0 < 10) = true := decide_eq_true c2
  clear c2
  obtain rfl := Option.some.inj H
  go_enter Tryd.func70, Tryd.ntmps70
  go_wp2
  go_ret
  exact ⟨by first | rfl | (simp; done) | (simp [*]; done), by repeat (first | exact Drawn0.refl _ | apply Drawn0.step)⟩
 ·rw [if_neg c2] at H
  have c2b0 : decide (a0 < 10) = false := decide_eq_false c2
  clear c2
  obtain rfl := Option.some.inj H
  go_enter Tryd.func70, Tryd.ntmps70
  go_wp2
  go_ret
  exact ⟨by first | rfl | (simp; done) | (simp [*]; done), by repeat (first | exact Drawn0.refl _ | apply Drawn0.step)⟩

/-! ### spec_Decimal: function 58 -/
def spec_Decimal.l0 : Nat → Int → Bool → ByteArray → Option (ByteArray)
 | 0, _, _, _ => none
 | k + 1, x0, x3, x4 => if x0 = 0 then (if x3 = true then (if 1 + x4.size ≤ 9223372036854775807 then (some ((⟨#[45]⟩ : ByteArray) ++ x4)) else (none)) else (some x4)) else (if (Int.tmod x0 10) < 0 then ((spec_l01Figure.f (wrap64 (-(Int.tmod x0 10)))).bind fun t344 => ((some (([t344] : List Int) : List Int)).bind fun y345 => (if (strOfNums y345).size + x4.size ≤ 9223372036854775807 then (spec_Decimal.l0 k (wrap64 (Int.tdiv x0 10)) x3 ((strOfNums y345) ++ x4)) else (none)))) else ((spec_l01Figure.f (Int.tmod x0 10)).bind fun t348 => ((some (([t348] : List Int) : List Int)).bind fun y349 => (if (strOfNums y349).size + x4.size ≤ 9223372036854775807 then (spec_Decimal.l0 k (wrap64 (Int.tdiv x0 10)) x3 ((strOfNums y349) ++ x4)) else (none)))))
def spec_Decimal.f (k : Nat) (a0 : Int) : Option (ByteArray) := if a0 = 0 then (some (⟨#[48]⟩ : ByteArray)) else (spec_Decimal.l0 k a0 (decide (a0 < 0)) (⟨#[]⟩ : ByteArray))
theorem spec_Decimal.mono_l : ∀ k, (∀ y0 y1 y2, LeO (spec_Decimal.l0 k y0 y1 y2) (spec_Decimal.l0 (k + 1) y0 y1 y2))
 | 0 => fun _ _ _ r h => by simp [spec_Decimal.l0] at h
 | k + 1 => by
  have ih0 := spec_Decimal.mono_l k
  ·intro y0 y1 y2
   unfold spec_Decimal.l0
   repeat' first
   | (with_reducible exact ih0 _ _ _)
   | (with_reducible exact LeO.refl _)
   | (with_reducible exact LeO.none _)
   | (with_reducible refine LeO.ite ?_ ?_)
   | (with_reducible refine LeO.bind ?_ (fun _ => ?_))
   | exact ih0 _ _ _
   | exact LeO.none _
   | refine LeO.ite ?_ ?_
   | refine LeO.bind ?_ (fun _ => ?_)
theorem spec_Decimal.mono : ∀ a0 k, LeO (spec_Decimal.f k a0) (spec_Decimal.f (k + 1) a0) := by
 intro a0 k
 have ih0 := spec_Decimal.mono_l k
 unfold spec_Decimal.f
 repeat' first
   | (with_reducible exact ih0 _ _ _)
   | (with_reducible exact LeO.refl _)
   | (with_reducible exact LeO.none _)
   | (with_reducible refine LeO.ite ?_ ?_)
   | (with_reducible refine LeO.bind ?_ (fun _ => ?_))
   | exact ih0 _ _ _
   | exact LeO.none _
   | refine LeO.ite ?_ ?_
   | refine LeO.bind ?_ (fun _ => ?_)
set_option maxHeartbeats 8000000 in
set_option maxRecDepth 100000 in
theorem spec_Decimal.calls (k : Nat) (a0 : Int) (r : ByteArray) (w : World) (h : spec_Decimal.f k a0 = some r) :
  Calls Tryd.prog 58 #[.int .i64 a0] w fun e w' => e = .returned (.string r) ∧ Below w.heap.size w w' := by
 have HB := Aside0.mk (Below.refl w.heap.size w)
 have H : (if a0 = 0 then (some (⟨#[48]⟩ : ByteArray)) else (spec_Decimal.l0 k a0 (decide (a0 < 0)) (⟨#[]⟩ : ByteArray))) = some r := h
 clear h
 by_cases c2 : a0 = 0
 ·rw [if_pos c2] at H
  have c2b0 : (a0 == 0) = true := beq_iff_eq.mpr c2
  have c2b1 : (a0 != 0) = false := bne_eq_false_iff_eq.mpr c2
  clear c2
  obtain rfl := Option.some.inj H
  go_enter Tryd.func58, Tryd.ntmps58
  go_wp2
  go_ret
  exact ⟨ze, zw HB⟩
 ·rw [if_neg c2] at H
  have c2b0 : (a0 == 0) = false := beq_eq_false_iff_ne.mpr c2
  have c2b1 : (a0 != 0) = true := bne_iff_ne.mpr c2
  have H' := Aside0.mk H
  clear H
  go_enter Tryd.func58, Tryd.ntmps58
  go_wp2
  go_loopg [0, 4] k (fun kq v0 v4 w' => ∃ (x0_1 : Int) (x4_1 : ByteArray), v0 = .int .i64 x0_1 ∧ v4 = .string x4_1 ∧ Aside0 (spec_Decimal.l0 kq x0_1 (decide (a0 < 0)) x4_1 = some r) ∧ Aside0 (kq ≤ k) ∧ Aside0 (Below w.heap.size w w'))
  case atStart => exact ⟨(a0), ((⟨#[]⟩ : ByteArray)), zf, zf, H', ⟨Nat.le_refl _⟩, ⟨zw HB⟩⟩
  case round =>
   clear H'
   try clear c2
   try clear c2b0
   try clear c2b1
   try clear p2
   obtain ⟨x0_1, x4_1, rfl, rfl, HA, HK1, HB⟩ := hrel
   cases gk with
   | zero => exact absurd HA.out (by simp [spec_Decimal.l0])
   | succ k1 =>
    have H := HA.out
    clear HA
    simp only [spec_Decimal.l0] at H
    by_cases c3 : x0_1 = 0
    ·rw [if_pos c3] at H
     have c3b0 : (x0_1 == 0) = true := beq_iff_eq.mpr c3
     have c3b1 : (x0_1 != 0) = false := bne_eq_false_iff_eq.mpr c3
     clear c3
     by_cases c4 : (decide (a0 < 0)) = true
     ·rw [if_pos c4] at H
      have c4b0 : (decide (a0 < 0)) = true := c4
      have c4d1 := of_decide_eq_true c4b0
      clear c4
      by_cases c5 : 1 + x4_1.size ≤ 9223372036854775807
      ·rw [if_pos c5] at H
       have c5b0 := eq_true c5
       have c5b1 : decide (1 + x4_1.size ≤ 9223372036854775807) = true := decide_eq_true c5
       try have c5b2 : (9223372036854775807 < 1 + x4_1.size) = False := eq_false (Nat.not_lt.2 c5)
       obtain rfl := Option.some.inj H
       go_wp2
       go_ret
       exact ⟨ze, zw HB⟩
      ·rw [if_neg c5] at H
       exact absurd H (by simp)
     ·rw [if_neg c4] at H
      have c4b0 : (decide (a0 < 0)) = false := by simpa using c4
      have c4d1 := of_decide_eq_false c4b0
      clear c4
      obtain rfl := Option.some.inj H
      go_wp2
      go_ret
      exact ⟨ze, zw HB⟩
    ·rw [if_neg c3] at H
     have c3b0 : (x0_1 == 0) = false := beq_eq_false_iff_ne.mpr c3
     have c3b1 : (x0_1 != 0) = true := bne_iff_ne.mpr c3
     by_cases c6 : (Int.tmod x0_1 10) < 0
     ·rw [if_pos c6] at H
      have c6b0 : decide ((Int.tmod x0_1 10) < 0) = true := decide_eq_true c6
      clear c6
      replace H := Option.bind_eq_some_iff.mp H
      obtain ⟨t344, A70, H⟩ := H
      have A7 := Aside0.mk A70
      clear A70
      obtain ⟨y345, hy345⟩ : ∃ y_ : List Int, y_ = (([t344] : List Int)) := ⟨_, rfl⟩
      replace H : (if (strOfNums y345).size + x4_1.size ≤ 9223372036854775807 then (spec_Decimal.l0 k1 (wrap64 (Int.tdiv x0_1 10)) (decide (a0 < 0)) ((strOfNums y345) ++ x4_1)) else (none)) = some r := by first | (rw [hy345]; with_reducible exact H) | (have H2_ := (Option.bind_some _ _).symm.trans H; rw [hy345]; with_reducible exact H2_) | (have H2_ := (Option.bind_some _ _).symm.trans H; with_reducible exact H2_) | with_reducible exact H | (rw [hy345]; exact H) | exact H
      have Ny345 := Aside0.mk hy345
      clear hy345
      by_cases c8 : (strOfNums y345).size + x4_1.size ≤ 9223372036854775807
      ·rw [if_pos c8] at H
       have c8b0 := eq_true c8
       have c8b1 : decide ((strOfNums y345).size + x4_1.size ≤ 9223372036854775807) = true := decide_eq_true c8
       try have c8b2 : (9223372036854775807 < (strOfNums y345).size + x4_1.size) = False := eq_false (Nat.not_lt.2 c8)
       have H' := Aside0.mk H
       clear H
       go_wp2_with (first | ((with_reducible refine gate_callee (f := 70) rfl ?_); refine zG (some 19) Tryd.func70 #[.int .i64 (wrap64 (-(Int.tmod x0_1 10)))] ?_; (with_reducible refine (spec_l01Figure.calls (wrap64 (-(Int.tmod x0_1 10))) t344 _ A7.out).mono ?_); rintro e w' ⟨rfl, ⟨nd, rfl⟩⟩; refine ⟨_, rfl, ?_⟩) | ((with_reducible refine gate_dst (N := 20) rfl ?_); refine Kd.R_lit (Kd.int .u8) _ 5 ?hg (N := 20) ?hd (xs := ([t344] : List Int)) (inner := [.int .u8 t344]) (ok := fun _ => True) (okp := fun _ => True) ?hr ?hp (fun _ hk => hk) trivial (Below.refl _ _) (Nat.le_refl _) (by simp) ?_; (case hd => rfl); (case hg => rfl); (case hr => first | (go_simp; done) | (go_simp; rfl)); (case hp => exact (Reps.one (show Kd.M (Kd.int .u8) _ _ _ t344 [.int .u8 t344] from rfl) (Reps.none _ _))); intro v346 w9 ho10 hb hg_ hnew_; clear hg_ hnew_; (first | rw [← Ny345.out] at ho10 | (simp only [Int.reduceToNat] at ho10; rw [← Ny345.out] at ho10)); have HO347 := Aside0.mk (Kd.R_lower ho10 (below_size (zw HB))); replace HB := zs HB hb; clear hb ho10; have hcv11 := own_string (P := Tryd.prog) Tryd.underlying22 Tryd.underlying5 Tryd.underlying9 (Kd.own_of_R HO347.out)))
       go_roundg k1
       case measure => have := HK1.out; omega
       case rel => exact ⟨(wrap64 (Int.tdiv x0_1 10)), ((strOfNums y345) ++ x4_1), zf, zf, H', ⟨by have := HK1.out; omega⟩, ⟨zw HB⟩⟩
      ·rw [if_neg c8] at H
       exact absurd H (by simp)
     ·rw [if_neg c6] at H
      have c6b0 : decide ((Int.tmod x0_1 10) < 0) = false := decide_eq_false c6
      clear c6
      replace H := Option.bind_eq_some_iff.mp H
      obtain ⟨t348, A120, H⟩ := H
      have A12 := Aside0.mk A120
      clear A120
      obtain ⟨y349, hy349⟩ : ∃ y_ : List Int, y_ = (([t348] : List Int)) := ⟨_, rfl⟩
      replace H : (if (strOfNums y349).size + x4_1.size ≤ 9223372036854775807 then (spec_Decimal.l0 k1 (wrap64 (Int.tdiv x0_1 10)) (decide (a0 < 0)) ((strOfNums y349) ++ x4_1)) else (none)) = some r := by first | (rw [hy349]; with_reducible exact H) | (have H2_ := (Option.bind_some _ _).symm.trans H; rw [hy349]; with_reducible exact H2_) | (have H2_ := (Option.bind_some _ _).symm.trans H; with_reducible exact H2_) | with_reducible exact H | (rw [hy349]; exact H) | exact H
      have Ny349 := Aside0.mk hy349
      clear hy349
      by_cases c13 : (strOfNums y349).size + x4_1.size ≤ 9223372036854775807
      ·rw [if_pos c13] at H
       have c13b0 := eq_true c13
       have c13b1 : decide ((strOfNums y349).size + x4_1.size ≤ 9223372036854775807) = true := decide_eq_true c13
       try have c13b2 : (9223372036854775807 < (strOfNums y349).size + x4_1.size) = False := eq_false (Nat.not_lt.2 c13)
       have H' := Aside0.mk H
       clear H
       go_wp2_with (first | ((with_reducible refine gate_callee (f := 70) rfl ?_); refine zG (some 19) Tryd.func70 #[.int .i64 (Int.tmod x0_1 10)] ?_; (with_reducible refine (spec_l01Figure.calls (Int.tmod x0_1 10) t348 _ A12.out).mono ?_); rintro e w' ⟨rfl, ⟨nd, rfl⟩⟩; refine ⟨_, rfl, ?_⟩) | ((with_reducible refine gate_dst (N := 20) rfl ?_); refine Kd.R_lit (Kd.int .u8) _ 5 ?hg (N := 20) ?hd (xs := ([t348] : List Int)) (inner := [.int .u8 t348]) (ok := fun _ => True) (okp := fun _ => True) ?hr ?hp (fun _ hk => hk) trivial (Below.refl _ _) (Nat.le_refl _) (by simp) ?_; (case hd => rfl); (case hg => rfl); (case hr => first | (go_simp; done) | (go_simp; rfl)); (case hp => exact (Reps.one (show Kd.M (Kd.int .u8) _ _ _ t348 [.int .u8 t348] from rfl) (Reps.none _ _))); intro v350 w14 ho15 hb hg_ hnew_; clear hg_ hnew_; (first | rw [← Ny349.out] at ho15 | (simp only [Int.reduceToNat] at ho15; rw [← Ny349.out] at ho15)); have HO351 := Aside0.mk (Kd.R_lower ho15 (below_size (zw HB))); replace HB := zs HB hb; clear hb ho15; have hcv16 := own_string (P := Tryd.prog) Tryd.underlying22 Tryd.underlying5 Tryd.underlying9 (Kd.own_of_R HO351.out)))
       go_roundg k1
       case measure => have := HK1.out; omega
       case rel => exact ⟨(wrap64 (Int.tdiv x0_1 10)), ((strOfNums y349) ++ x4_1), zf, zf, H', ⟨by have := HK1.out; omega⟩, ⟨zw HB⟩⟩
      ·rw [if_neg c13] at H
       exact absurd H (by simp)

end Go.Proofs.YthngecooaddddaaDoor.PFnSetsTold
