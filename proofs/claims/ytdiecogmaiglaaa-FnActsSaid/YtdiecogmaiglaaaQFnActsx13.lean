import Derived.Test.YtdiecogmaiglaaaQFnActsx0
import Derived.Test.YtdiecogmaiglaaaQFnActsx4
import Derived.Test.YtdiecogmaiglaaaQFnActsx5
namespace Go.Proofs.Ytdiecogmaiglaaa.PFnActs
open Go.RowKit Go.Proofs.YtdiecogmaiglaaaW.PrintWords Go.Proofs.YtdiecogmaiglaaaW.PrintLast Go.Proofs.YtdiecogmaiglaaaW.PrintMore
attribute [local go_sem] max2_int min2_int max_two min_two max_three min_three max_four min_four   -- for this text's walks alone
set_option linter.unusedVariables false
set_option linter.unusedSimpArgs false

/-! ### impl_DoActs: function 41 -/
def impl_DoActs.l0 : Nat → List (S55) → List (S55) → Int → Int → List (S45) → Option ((List (S45)) × Int)
 | 0, _, _, _, _, _ => none
 | k + 1, x1, x13, x14, x15, x243000 => if x15 < x14 then (if 0 ≤ x15 then (if x15 < (x13.length : Int) then ((impl_DoAct.f k x243000 ((rd_T55 x13 x15).f0) ((rd_T55 x13 x15).f1) ((rd_T55 x13 x15).f2) ((rd_T55 x13 x15).f3)).bind fun bt245 => (if bt245.2 = true then (impl_DoActs.l0 k x1 x13 x14 (wrap64 (x15 + 1)) bt245.1) else (some (x243000, x15)))) else (none)) else (none)) else (some (x243000, (x1.length : Int)))
def impl_DoActs.f (k : Nat) (l0_0 : List (S45)) (l1 : List (S55)) : Option ((List (S45)) × Int) := (impl_copyDisk.f l0_0).bind fun t239 => (impl_DoActs.l0 k l1 l1 (l1.length : Int) 0 t239)
theorem impl_DoActs.mono_l : ∀ k, (∀ y0 y1 y2 y3 y4, LeO (impl_DoActs.l0 k y0 y1 y2 y3 y4) (impl_DoActs.l0 (k + 1) y0 y1 y2 y3 y4))
 | 0 => fun _ _ _ _ _ r h => by simp [impl_DoActs.l0] at h
 | k + 1 => by
  have ih0 := impl_DoActs.mono_l k
  intro y0 y1 y2 y3 y4
  unfold impl_DoActs.l0
  repeat' first
  | (with_reducible exact ih0 _ _ _ _ _)
  | (with_reducible exact impl_DoAct.mono _ _ _ _ _ _)
  | (with_reducible exact LeO.refl _)
  | (with_reducible exact LeO.none _)
  | (with_reducible refine LeO.ite ?_ ?_)
  | (with_reducible refine LeO.bind ?_ (fun _ => ?_))
  | exact ih0 _ _ _ _ _
  | exact impl_DoAct.mono _ _ _ _ _ _
  | exact LeO.none _
  | refine LeO.ite ?_ ?_
  | refine LeO.bind ?_ (fun _ => ?_)
theorem impl_DoActs.mono : ∀ a0 a1 k, LeO (impl_DoActs.f k a0 a1) (impl_DoActs.f (k + 1) a0 a1) := by
 intro a0 a1 k
 have ih0 := impl_DoActs.mono_l k
 unfold impl_DoActs.f
 repeat' first
   | (with_reducible exact ih0 _ _ _ _ _)
   | (with_reducible exact impl_DoAct.mono _ _ _ _ _ _)
   | (with_reducible exact LeO.refl _)
   | (with_reducible exact LeO.none _)
   | (with_reducible refine LeO.ite ?_ ?_)
   | (with_reducible refine LeO.bind ?_ (fun _ => ?_))
   | exact ih0 _ _ _ _ _
   | exact impl_DoAct.mono _ _ _ _ _ _
   | exact LeO.none _
   | refine LeO.ite ?_ ?_
   | refine LeO.bind ?_ (fun _ => ?_)
set_option maxHeartbeats 8000000 in
set_option maxRecDepth 100000 in
theorem impl_DoActs.calls (k : Nat) (A0_0 : Option Addr) (c0_0 : Nat) (l0_0 : List (S45)) (A1 : Option Addr) (c1 : Nat) (l1 : List (S55)) (r1 : List (S45)) (r2 : Int) (w : World) (hr0_0 : Kd.C k45 w A0_0 l0_0.length l0_0) (hc0_0 : l0_0.length ≤ c0_0) (hr1 : Kd.C k55 w A1 l1.length l1) (hc1 : l1.length ≤ c1) (h : impl_DoActs.f k l0_0 l1 = some (r1, r2)) :
  Calls Try.prog 41 #[.agg #[.slice A0_0 l0_0.length c0_0], .slice A1 l1.length c1] w fun e w' => ∃ v0_ : Value, e = .returned (.tuple #[.agg #[v0_], .int .i64 r2]) ∧ Kd.R k45 45 w' w.heap.size (fun _ => True) v0_ r1 ∧ Below w.heap.size w w' := by
 have hu29 := Try.underlying29
 have hu55 := Try.underlying55
 have HR0_0 := Aside0.mk hr0_0
 have Ch := Aside0.mk hc0_0
 clear hr0_0 hc0_0
 have HR1 := Aside0.mk hr1
 have HC1 := Aside0.mk hc1
 clear hr1 hc1
 have HB := Aside0.mk (Below.refl w.heap.size w)
 have H : ((impl_copyDisk.f l0_0).bind fun Br => (impl_DoActs.l0 k l1 l1 (l1.length : Int) 0 Br)) = some (r1, r2) := h
 clear h
 replace H := Option.bind_eq_some_iff.mp H
 obtain ⟨Br, C5, H⟩ := H
 have A3 := Aside0.mk C5
 clear C5
 have H' := Aside0.mk H
 clear H
 go_enter Try.func41, Try.ntmps41
 go_wp2_with (first | ((with_reducible refine gate_dst (N := 2) rfl ?_); refine zx (N := 2) (cs := #[.slice A0_0 l0_0.length c0_0]) (t := 29) ?_; intro Cb hg w4 hbox hb; have Ae := Aside0.mk (hbox); have GW237 := zg HB hg; have GE237 := zg HB hg; replace HB := zs HB hb; clear hb hbox hg) | ((with_reducible refine gate_dst (N := 4) rfl ?_); refine zx (N := 4) (cs := #[.slice none 0 0]) (t := 29) ?_; intro Bm hg w5 hbox hb; have Ac := Aside0.mk (hbox); have GW238 := zg HB hg; have GE238 := zg HB hg; replace HB := zs HB hb; have Bi := zl Ae hg; have Bf := zr Ae hg; replace Ae := zb Ae hb; clear hb hbox hg; have hnb6 := Bi.out; have hnc6 := Bf.out; obtain ⟨Cu, Ct⟩ := zc1 Ae) | ((with_reducible refine gate_callee (f := 61) rfl ?_); refine zG (some 12) Try.func61 #[.agg #[.slice A0_0 l0_0.length c0_0]] ?_; (with_reducible refine (impl_copyDisk.calls _ _ l0_0 Br _ ?side1 ?side2 A3.out).mono ?_); (case side1 => exact zI (Kd.C_below HR0_0.out HB.out)); (case side2 => exact Ch.out); rintro e w8 ⟨v240, rfl, Bu, hb⟩; refine ⟨_, rfl, ?_⟩; have Bq := Aside0.mk (Kd.R_lower Bu (below_size (zw HB))); replace Ae := zb Ae hb; replace Ac := zb Ac hb; replace HB := zs HB hb; clear Bu hb) | ((with_reducible refine gate_dst (N := 6) rfl ?_); refine zx (N := 6) (cs := #[.slice none 0 0]) (t := 29) ?_; intro Bt hg w9 hbox hb; replace Bq := zy Bq hb; have Af := Aside0.mk (hbox); have GW242 := zg HB hg; have GE242 := zg HB hg; replace HB := zs HB hb; have Al := zl Ae hg; have Aj := zr Ae hg; replace Ae := zb Ae hb; have Ak := zl Ac hg; have Ai := zr Ac hg; replace Ac := zb Ac hb; clear hb hbox hg; obtain ⟨Cn, Ce, C0⟩ := Kd.R_slice Bq.out; subst C0; have hnb11 := Aj.out; have hnc11 := Al.out; have hnb12 := Ai.out; have hnc12 := Ak.out; obtain ⟨Ca, B8⟩ := zc1 Af))
 go_loopg [15] k (fun kq C7 w' => ∃ (Aa : Int) (Ad : List (S45)) (Bk : Value), C7 = .int .i64 Aa ∧ Aside0 (impl_DoActs.l0 kq l1 l1 (l1.length : Int) Aa Ad = some (r1, r2)) ∧ Aside0 (kq ≤ k) ∧ Aside0 (Kd.R k45 45 w' w.heap.size (fun _ => True) Bk Ad) ∧ Aside0 (w'.heap[Cb]? = some (.cells #[(.slice A0_0 l0_0.length c0_0)] 29 (0, 0))) ∧ Aside0 (w'.heap[Bm]? = some (.cells #[(.slice none 0 0)] 29 (0, 0))) ∧ Aside0 (w'.heap[Bt]? = some (.cells #[Bk] 29 (0, 0))) ∧ Aside0 (Below w.heap.size w w'))
 case atStart => exact ⟨(0), (Br), (.slice Cn Br.length Ce), zf, H', ⟨Nat.le_refl _⟩, ⟨zo (Kd.R_mono (Kd.R_far (p := ⟨Bt, 0, none⟩) (Kd.R_types Bq.out Af.out (by decide)) (fun _ hk => hk.2) (.slice Cn Br.length Ce)) (fun _ hk => trivial))⟩, ⟨zkf Ae⟩, ⟨zkf Ac⟩, ⟨zj Af⟩, ⟨zw HB⟩⟩
 case round =>
  clear H'
  try clear c1
  try clear p2
  try clear c4
  try clear c6
  try clear c11
  try clear c12
  try clear Ca
  try clear Cu
  try clear B8
  try clear Ct
  obtain ⟨Aa, Ad, Bk, rfl, HA, C4, Ab, Ae, Ac, Af, HB⟩ := hrel
  cases gk with
  | zero => exact absurd HA.out (by simp [impl_DoActs.l0])
  | succ k1 =>
   have H := HA.out
   clear HA
   simp only [impl_DoActs.l0] at H
   by_cases B1 : Aa < (l1.length : Int)
   ·rw [if_pos B1] at H
    have Cf := decide_eq_true B1
    clear B1
    by_cases Cr : 0 ≤ Aa
    ·rw [if_pos Cr] at H
     have c15b0 := decide_eq_true Cr
     clear Cr
     by_cases Cq : Aa < (l1.length : Int)
     ·rw [if_pos Cq] at H
      have c16b0 := decide_eq_true Cq
      clear Cq
      replace H := Option.bind_eq_some_iff.mp H
      obtain ⟨⟨Bl, B2⟩, Co, H⟩ := H
      replace H : (if B2 = true then (impl_DoActs.l0 k1 l1 l1 (l1.length : Int) (wrap64 (Aa + 1)) Bl) else (some (Ad, Aa))) = some (r1, r2) := H
      have C6 := Aside0.mk Co
      clear Co
      by_cases Cp : B2 = true
      ·subst Cp
       rw [if_pos rfl] at H
       have H' := Aside0.mk H
       clear H
       have Bp : 0 ≤ (Aa : Int) := of_decide_eq_true za
       have Bo : Aa < (l1.length : Int) := of_decide_eq_true za
       obtain ⟨Cg, Bw, Aq, Ap, Ao, Am⟩ := at_T55 HR1.out Aa Bp Bo
       cases Bw
       replace Aq := zU HB.out Aq
       replace Ap := zU HB.out Ap
       replace Ao := zU HB.out Ao
       replace Am := zU HB.out Am
       replace Bp := eq_true Bp
       replace Bo := eq_true Bo
       go_wp2_with (first | ((with_reducible refine gate_dst (N := 8) rfl ?_); refine zx (N := 8) (cs := #[.int .i64 0, .string (⟨#[]⟩ : ByteArray), .string (⟨#[]⟩ : ByteArray), .string (⟨#[]⟩ : ByteArray)]) (t := 55) ?_; intro Ag hg w19 hbox hb; replace Ab := zy Ab hb; have Ah := Aside0.mk (hbox); have Cj := zg HB hg; have Cl := zg HB hg; replace HB := zs HB hb; have Bh := zl Ae hg; have Ba := zr Ae hg; replace Ae := zb Ae hb; have Be := zl Ac hg; have Az := zr Ac hg; replace Ac := zb Ac hb; have Bc := zl Af hg; have Ay := zr Af hg; replace Af := zb Af hb; clear hb hbox hg; have hnb20 := Ba.out; have hnc20 := Bh.out; have hnb21 := Az.out; have hnc21 := Be.out; have hnb22 := Ay.out; have hnc22 := Bc.out; obtain ⟨_, _, _, _, _, _, _, _⟩ := zc4 Ah; have hnb24 := Aj.out; have hnc24 := Al.out; have hnb25 := Ai.out; have hnc25 := Ak.out; obtain ⟨_, _⟩ := zc1 Af; obtain ⟨C3, Cd, Cz⟩ := Kd.R_slice Ab.out; subst Cz) | ((with_reducible refine gate_callee (f := 37) rfl ?_); refine zG (some 23) Try.func37 #[.agg #[.slice C3 Ad.length Cd], .agg #[.int .i64 ((rd_T55 l1 Aa).f0), .string ((rd_T55 l1 Aa).f1), .string ((rd_T55 l1 Aa).f2), .string ((rd_T55 l1 Aa).f3)]] ?_; (with_reducible refine (impl_DoAct.calls k1 _ _ Ad ((rd_T55 l1 Aa).f0) ((rd_T55 l1 Aa).f1) ((rd_T55 l1 Aa).f2) ((rd_T55 l1 Aa).f3) Bl true _ ?side1 ?side2 C6.out).mono ?_); (case side1 => refine (Kd.R_reads' (e := 45) (base := w.heap.size) (ok := fun k_ => True) (n := Ad.length) (c := Cd) ?_).2.2; exact (zo ((Kd.R_mono (Kd.R_far (p := ⟨Ag, 3, none⟩) (Kd.R_far (p := ⟨Ag, 2, none⟩) (Kd.R_far (p := ⟨Ag, 1, none⟩) (Kd.R_far (p := ⟨Ag, 0, none⟩) (Kd.R_types Ab.out Ah.out (by decide)) (fun _ hk => hk.2) (.int .i64 ((rd_T55 l1 Aa).f0))) (fun _ hk => hk.2) (.string ((rd_T55 l1 Aa).f1))) (fun _ hk => hk.2) (.string ((rd_T55 l1 Aa).f2))) (fun _ hk => hk.2) (.string ((rd_T55 l1 Aa).f3))) (fun _ h_ => h_.1))))); (case side2 => exact (Kd.R_reads' Ab.out).2.1); rintro e w28 ⟨Cs, rfl, Bu, hb⟩; refine ⟨_, rfl, ?_⟩; have Bj := Aside0.mk (Kd.R_lower (Kd.R_new' Bu (Kd.R_lt (zo ((Kd.R_mono (Kd.R_far (p := ⟨Ag, 3, none⟩) (Kd.R_far (p := ⟨Ag, 2, none⟩) (Kd.R_far (p := ⟨Ag, 1, none⟩) (Kd.R_far (p := ⟨Ag, 0, none⟩) (Kd.R_types Ab.out Ah.out (by decide)) (fun _ hk => hk.2) (.int .i64 ((rd_T55 l1 Aa).f0))) (fun _ hk => hk.2) (.string ((rd_T55 l1 Aa).f1))) (fun _ hk => hk.2) (.string ((rd_T55 l1 Aa).f2))) (fun _ hk => hk.2) (.string ((rd_T55 l1 Aa).f3))) (fun _ h_ => h_.1)))))) (below_size (zw HB))); replace Ab := Aside0.mk (Kd.R_elder' (zo ((Kd.R_mono (Kd.R_far (p := ⟨Ag, 3, none⟩) (Kd.R_far (p := ⟨Ag, 2, none⟩) (Kd.R_far (p := ⟨Ag, 1, none⟩) (Kd.R_far (p := ⟨Ag, 0, none⟩) (Kd.R_types Ab.out Ah.out (by decide)) (fun _ hk => hk.2) (.int .i64 ((rd_T55 l1 Aa).f0))) (fun _ hk => hk.2) (.string ((rd_T55 l1 Aa).f1))) (fun _ hk => hk.2) (.string ((rd_T55 l1 Aa).f2))) (fun _ hk => hk.2) (.string ((rd_T55 l1 Aa).f3))) (fun _ h_ => h_.1)))) (Kd.R_base Bu) hb); replace Ae := zbf Ae hb; replace Ac := zbf Ac hb; replace Af := zbf Af hb; replace Ah := Aside0.mk (blk_below (g := Ag) (o := .cells #[.int .i64 ((rd_T55 l1 Aa).f0), .string ((rd_T55 l1 Aa).f1), .string ((rd_T55 l1 Aa).f2), .string ((rd_T55 l1 Aa).f3)] 55 (0, 0)) (zj Ah) hb); replace HB := zs HB hb; clear Bu hb) | ((with_reducible refine gate_dst (N := 9) rfl ?_); refine zx (N := 9) (cs := #[.slice none 0 0]) (t := 29) ?_; intro Bs hg w29 hbox hb; replace Ab := zy Ab hb; replace Bj := zy Bj hb; have Bn := Aside0.mk (hbox); have Ci := zg HB hg; have Ck := zg HB hg; replace HB := zs HB hb; have Bg := zl Ae hg; have Aw := zr Ae hg; replace Ae := zb Ae hb; have Bd := zl Ac hg; have Au := zr Ac hg; replace Ac := zb Ac hb; have Bb := zl Af hg; have As := zr Af hg; replace Af := zb Af hb; have Ax := zl Ah hg; have Ar := zr Ah hg; replace Ah := zb Ah hb; clear hb hbox hg; obtain ⟨B0, Bx, Cy⟩ := Kd.R_slice Bj.out; subst Cy; have hnb31 := Aw.out; have hnc31 := Bg.out; have hnb32 := Au.out; have hnc32 := Bd.out; have hnb33 := As.out; have hnc33 := Bb.out; have hnb34 := Ar.out; have hnc34 := Ax.out; obtain ⟨_, _⟩ := zc1 Bn; obtain ⟨_, _⟩ := zc1 Af))
       go_roundg k1
       case measure => have := C4.out; omega
       case rel => exact ⟨(wrap64 (Aa + 1)), (Bl), (.slice B0 Bl.length Bx), zf, H', ⟨by have := C4.out; omega⟩, ⟨zo (Kd.R_mono (Kd.R_far (p := ⟨Bt, 0, none⟩) (Kd.R_far (p := ⟨Bs, 0, none⟩) (Kd.R_types (Kd.R_types Bj.out Bn.out (by decide)) Af.out (by decide)) (fun _ hk => hk.1.2) (.slice B0 Bl.length Bx)) (fun _ hk => hk.2) (.slice B0 Bl.length Bx)) (fun _ hk => trivial))⟩, ⟨zkf Ae⟩, ⟨zkf Ac⟩, ⟨zj Af⟩, ⟨zw HB⟩⟩
      replace Cp := Bool.eq_false_iff.mpr Cp
      subst Cp
      rw [if_neg (show ¬ (false = true) by decide)] at H
      simp only [Option.some.injEq, Prod.mk.injEq] at H
      obtain ⟨rfl, rfl⟩ := H
      have Bp : 0 ≤ (Aa : Int) := of_decide_eq_true za
      have Bo : Aa < (l1.length : Int) := of_decide_eq_true za
      obtain ⟨Cg, Bw, Aq, Ap, Ao, Am⟩ := at_T55 HR1.out Aa Bp Bo
      cases Bw
      replace Aq := zU HB.out Aq
      replace Ap := zU HB.out Ap
      replace Ao := zU HB.out Ao
      replace Am := zU HB.out Am
      replace Bp := eq_true Bp
      replace Bo := eq_true Bo
      go_wp2_with (first | ((with_reducible refine gate_dst (N := 8) rfl ?_); refine zx (N := 8) (cs := #[.int .i64 0, .string (⟨#[]⟩ : ByteArray), .string (⟨#[]⟩ : ByteArray), .string (⟨#[]⟩ : ByteArray)]) (t := 55) ?_; intro Ag hg w37 hbox hb; replace Ab := zy Ab hb; have Ah := Aside0.mk (hbox); have Cj := zg HB hg; have Cl := zg HB hg; replace HB := zs HB hb; have Bh := zl Ae hg; have Ba := zr Ae hg; replace Ae := zb Ae hb; have Be := zl Ac hg; have Az := zr Ac hg; replace Ac := zb Ac hb; have Bc := zl Af hg; have Ay := zr Af hg; replace Af := zb Af hb; clear hb hbox hg; have hnb38 := Ba.out; have hnc38 := Bh.out; have hnb39 := Az.out; have hnc39 := Be.out; have hnb40 := Ay.out; have hnc40 := Bc.out; obtain ⟨_, _, _, _, _, _, _, _⟩ := zc4 Ah; have hnb42 := Aj.out; have hnc42 := Al.out; have hnb43 := Ai.out; have hnc43 := Ak.out; obtain ⟨_, _⟩ := zc1 Af; obtain ⟨Bz, Bv, Cx⟩ := Kd.R_slice Ab.out; subst Cx) | ((with_reducible refine gate_callee (f := 37) rfl ?_); refine zG (some 23) Try.func37 #[.agg #[.slice Bz Ad.length Bv], .agg #[.int .i64 ((rd_T55 l1 Aa).f0), .string ((rd_T55 l1 Aa).f1), .string ((rd_T55 l1 Aa).f2), .string ((rd_T55 l1 Aa).f3)]] ?_; (with_reducible refine (impl_DoAct.calls k1 _ _ Ad ((rd_T55 l1 Aa).f0) ((rd_T55 l1 Aa).f1) ((rd_T55 l1 Aa).f2) ((rd_T55 l1 Aa).f3) Bl false _ ?side1 ?side2 C6.out).mono ?_); (case side1 => refine (Kd.R_reads' (e := 45) (base := w.heap.size) (ok := fun k_ => True) (n := Ad.length) (c := Bv) ?_).2.2; exact (zo ((Kd.R_mono (Kd.R_far (p := ⟨Ag, 3, none⟩) (Kd.R_far (p := ⟨Ag, 2, none⟩) (Kd.R_far (p := ⟨Ag, 1, none⟩) (Kd.R_far (p := ⟨Ag, 0, none⟩) (Kd.R_types Ab.out Ah.out (by decide)) (fun _ hk => hk.2) (.int .i64 ((rd_T55 l1 Aa).f0))) (fun _ hk => hk.2) (.string ((rd_T55 l1 Aa).f1))) (fun _ hk => hk.2) (.string ((rd_T55 l1 Aa).f2))) (fun _ hk => hk.2) (.string ((rd_T55 l1 Aa).f3))) (fun _ h_ => h_.1))))); (case side2 => exact (Kd.R_reads' Ab.out).2.1); rintro e w46 ⟨Cs, rfl, Bu, hb⟩; refine ⟨_, rfl, ?_⟩; have Bj := Aside0.mk (Kd.R_lower (Kd.R_new' Bu (Kd.R_lt (zo ((Kd.R_mono (Kd.R_far (p := ⟨Ag, 3, none⟩) (Kd.R_far (p := ⟨Ag, 2, none⟩) (Kd.R_far (p := ⟨Ag, 1, none⟩) (Kd.R_far (p := ⟨Ag, 0, none⟩) (Kd.R_types Ab.out Ah.out (by decide)) (fun _ hk => hk.2) (.int .i64 ((rd_T55 l1 Aa).f0))) (fun _ hk => hk.2) (.string ((rd_T55 l1 Aa).f1))) (fun _ hk => hk.2) (.string ((rd_T55 l1 Aa).f2))) (fun _ hk => hk.2) (.string ((rd_T55 l1 Aa).f3))) (fun _ h_ => h_.1)))))) (below_size (zw HB))); replace Ab := Aside0.mk (Kd.R_elder' (zo ((Kd.R_mono (Kd.R_far (p := ⟨Ag, 3, none⟩) (Kd.R_far (p := ⟨Ag, 2, none⟩) (Kd.R_far (p := ⟨Ag, 1, none⟩) (Kd.R_far (p := ⟨Ag, 0, none⟩) (Kd.R_types Ab.out Ah.out (by decide)) (fun _ hk => hk.2) (.int .i64 ((rd_T55 l1 Aa).f0))) (fun _ hk => hk.2) (.string ((rd_T55 l1 Aa).f1))) (fun _ hk => hk.2) (.string ((rd_T55 l1 Aa).f2))) (fun _ hk => hk.2) (.string ((rd_T55 l1 Aa).f3))) (fun _ h_ => h_.1)))) (Kd.R_base Bu) hb); replace Ae := zbf Ae hb; replace Ac := zbf Ac hb; replace Af := zbf Af hb; replace Ah := Aside0.mk (blk_below (g := Ag) (o := .cells #[.int .i64 ((rd_T55 l1 Aa).f0), .string ((rd_T55 l1 Aa).f1), .string ((rd_T55 l1 Aa).f2), .string ((rd_T55 l1 Aa).f3)] 55 (0, 0)) (zj Ah) hb); replace HB := zs HB hb; clear Bu hb) | ((with_reducible refine gate_dst (N := 9) rfl ?_); refine zx (N := 9) (cs := #[.slice none 0 0]) (t := 29) ?_; intro Bs hg w47 hbox hb; replace Ab := zy Ab hb; replace Bj := zy Bj hb; have Bn := Aside0.mk (hbox); have Ci := zg HB hg; have Ck := zg HB hg; replace HB := zs HB hb; have Bg := zl Ae hg; have Aw := zr Ae hg; replace Ae := zb Ae hb; have Bd := zl Ac hg; have Au := zr Ac hg; replace Ac := zb Ac hb; have Bb := zl Af hg; have As := zr Af hg; replace Af := zb Af hb; have Ax := zl Ah hg; have Ar := zr Ah hg; replace Ah := zb Ah hb; clear hb hbox hg; obtain ⟨C2, C1, Cw⟩ := Kd.R_slice Bj.out; subst Cw; have hnb49 := Aw.out; have hnc49 := Bg.out; have hnb50 := Au.out; have hnc50 := Bd.out; have hnb51 := As.out; have hnc51 := Bb.out; have hnb52 := Ar.out; have hnc52 := Ax.out; obtain ⟨_, _⟩ := zc1 Bn; obtain ⟨_, _⟩ := zc1 Af; have hnb55 := Bf.out; have hnc55 := Bi.out; obtain ⟨_, _⟩ := zc1 Ac))
      refine bodyPost_ret (results_ct rfl _ _ Bm 29 #[.slice Bz Ad.length Bv] (0, 0) _ rfl (zj Ac) Try.underlying29 rfl (by kernel_rfl)) rfl ?_
      exact ⟨_, ze, zo (Kd.R_mono (Kd.R_far (p := ⟨Bm, 0, none⟩) (Kd.R_far (p := ⟨Bs, 0, none⟩) (Kd.R_types (Kd.R_types Ab.out Bn.out (by decide)) Ac.out (by decide)) (fun _ hk => hk.1.2) (.slice C2 Bl.length C1)) (fun _ hk => hk.2) (.slice Bz Ad.length Bv)) (fun _ hk => trivial)), zw HB⟩
     rw [if_neg Cq] at H
     exact absurd H (by simp)
    rw [if_neg Cr] at H
    exact absurd H (by simp)
   rw [if_neg B1] at H
   have Cf := decide_eq_false B1
   clear B1
   simp only [Option.some.injEq, Prod.mk.injEq] at H
   obtain ⟨rfl, rfl⟩ := H
   have hnb57 := Aj.out
   have hnc57 := Al.out
   have hnb58 := Ai.out
   have hnc58 := Ak.out
   obtain ⟨_, _⟩ := zc1 Af
   obtain ⟨Cm, Cc, Cv⟩ := Kd.R_slice Ab.out
   subst Cv
   have hnb61 := Bf.out
   have hnc61 := Bi.out
   obtain ⟨_, _⟩ := zc1 Ac
   go_wp2
   refine bodyPost_ret (results_ct rfl _ _ Bm 29 #[.slice Cm Ad.length Cc] (0, 0) _ rfl (zj Ac) Try.underlying29 rfl (by kernel_rfl)) rfl ?_
   exact ⟨_, ze, zo (Kd.R_mono (Kd.R_far (p := ⟨Bm, 0, none⟩) (Kd.R_types Ab.out Ac.out (by decide)) (fun _ hk => hk.2) (.slice Cm Ad.length Cc)) (fun _ hk => trivial)), zw HB⟩

/-- A state of type 100 at block g of W; what its slices lead to came in by w0. -/
def IsS100 (w0 W : World) (g : Nat) (f0 : List Int) (f1 : Int) (f2 : Int) : Prop := ∃ A0 c0, W.heap[g]? = some (.cells #[.slice A0 f0.length c0, .int .i64 f1, .int .i64 f2] 100 (0, 0)) ∧ w0.heap.size ≤ g ∧ Kd.C (Kd.int .u8) w0 A0 f0.length f0
theorem IsS100.grown {w0 W : World} {g : Nat} {f0 : List Int} {f1 : Int} {f2 : Int} {W1 : World} {row : Option Nat} (h : IsS100 w0 W g f0 f1 f2) (hw : W.grownBy W1 row) (hne : some g ≠ row) : IsS100 w0 W1 g f0 f1 f2 := by
 obtain ⟨A0, c0, hb, hg, hr0⟩ := h
 exact ⟨A0, c0, blk_grown hb hw hne, hg, hr0⟩
theorem IsS100.own_neN {w0 W : World} {g : Nat} {f0 : List Int} {f1 : Int} {f2 : Int} {α : Type} {d : Kd α} {e : Nat} {base : Nat} {ok : Nat → Prop} {v : Value} {xs : List α} (h : IsS100 w0 W g f0 f1 f2) (ho : Kd.N d e W base ok v xs) (ht : e ≠ 100) : some g ≠ v.ownBlock := by
 obtain ⟨A0, c0, hb, hg, hr0⟩ := h
 exact Kd.N_ne ho hb ht
theorem IsS100.fresh {w0 W : World} {g : Nat} {f0 : List Int} {f1 : Int} {f2 : Int} (h : IsS100 w0 W g f0 f1 f2) : ∀ k, W.heap.size ≤ k → k ≠ g := by
 obtain ⟨A0, c0, hb, hg, hr0⟩ := h
 exact Kd.freshB hb
theorem IsS100.kept {w0 W : World} {g : Nat} {f0 : List Int} {f1 : Int} {f2 : Int} {W1 : World} {S : Nat → Prop} (h : IsS100 w0 W g f0 f1 f2) (hk : Kept W W1 S) (hne : ¬ S g) : IsS100 w0 W1 g f0 f1 f2 := by
 obtain ⟨A0, c0, hb, hg, hr0⟩ := h
 exact ⟨A0, c0, blk_kept hb hk hne, hg, hr0⟩
theorem IsS100.below {w0 W : World} {g : Nat} {f0 : List Int} {f1 : Int} {f2 : Int} {W1 : World} (h : IsS100 w0 W g f0 f1 f2) (hw : Below W.heap.size W W1) : IsS100 w0 W1 g f0 f1 f2 := h.grown (grown_of_below hw none) (by simp)
theorem IsS100.alloc {w0 W : World} {g : Nat} {f0 : List Int} {f1 : Int} {f2 : Int} (h : IsS100 w0 W g f0 f1 f2) (o : Obj) : IsS100 w0 (W.alloc o) g f0 f1 f2 := h.below (below_alloc (Below.refl _ _) o)
theorem IsS100.drewN {w0 W : World} {g : Nat} {f0 : List Int} {f1 : Int} {f2 : Int} (h : IsS100 w0 W g f0 f1 f2) (m : Nat) : IsS100 w0 (W.drewN m) g f0 f1 f2 := h
theorem IsS100.drew {w0 W : World} {g : Nat} {f0 : List Int} {f1 : Int} {f2 : Int} (h : IsS100 w0 W g f0 f1 f2) : IsS100 w0 W.drew g f0 f1 f2 := h
theorem IsS100.at_ {w0 W : World} {g : Nat} {f0 : List Int} {f1 : Int} {f2 : Int} {w' : World} {m : Nat} (hq : W.drewN m = w') (h : IsS100 w0 W g f0 f1 f2) : IsS100 w0 w' g f0 f1 f2 := by subst hq; exact IsS100.drewN h m
theorem IsS100.apart {w0 W : World} {g : Nat} {f0 : List Int} {f1 : Int} {f2 : Int} {α : Type} {d : Kd α} {e : Nat} {base : Nat} {ok : Nat → Prop} {v : Value} {xs : List α} (h : IsS100 w0 W g f0 f1 f2) (ho : d.R e W base ok v xs) (ht : ∀ q, q ∈ e :: d.E → q ≠ 100) : d.R e W base (fun k => ok k ∧ k ≠ g) v xs := by
 obtain ⟨A0, c0, hb, hg, hr0⟩ := h
 exact Kd.R_types ho hb ht
theorem IsS100.own_ne {w0 W : World} {g : Nat} {f0 : List Int} {f1 : Int} {f2 : Int} {α : Type} {d : Kd α} {e : Nat} {base : Nat} {ok : Nat → Prop} {v : Value} {xs : List α} (h : IsS100 w0 W g f0 f1 f2) (ho : d.R e W base ok v xs) (ht : e ≠ 100) : some g ≠ v.ownBlock := by
 obtain ⟨A0, c0, hb, hg, hr0⟩ := h
 exact Kd.R_ne ho hb ht
theorem IsS100.apartQ {w0 W : World} {g : Nat} {f0 : List Int} {f1 : Int} {f2 : Int} {α : Type} {d : Kd α} {e : Nat} {base : Nat} {ok : Nat → Prop} {v : Value} {xs : List α} (h : IsS100 w0 W g f0 f1 f2) (ho : d.Q e W base ok v xs) (ht : ∀ q, q ∈ e :: d.E → q ≠ 100) : d.Q e W base (fun k => ok k ∧ k ≠ g) v xs := by
 obtain ⟨A0, c0, hb, hg, hr0⟩ := h
 exact Kd.Q_types ho hb ht
theorem IsS100.own_neQ {w0 W : World} {g : Nat} {f0 : List Int} {f1 : Int} {f2 : Int} {α : Type} {d : Kd α} {e : Nat} {base : Nat} {ok : Nat → Prop} {v : Value} {xs : List α} (h : IsS100 w0 W g f0 f1 f2) (ho : d.Q e W base ok v xs) (ht : e ≠ 100) : some g ≠ v.ownBlock := by
 obtain ⟨A0, c0, hb, hg, hr0⟩ := h
 exact Kd.Q_ne ho hb ht
theorem IsS100.apartS {w0 W : World} {g : Nat} {f0 : List Int} {f1 : Int} {f2 : Int} {α : Type} {d : Kd α} {e : Nat} {base : Nat} {ok : Nat → Prop} {v : Value} {xs : List α} (h : IsS100 w0 W g f0 f1 f2) (ho : d.S e W base ok v xs) (ht : ∀ q, q ∈ e :: d.E → q ≠ 100) : d.S e W base (fun k => ok k ∧ k ≠ g) v xs := by
 obtain ⟨A0, c0, hb, hg, hr0⟩ := h
 exact Kd.S_types ho hb ht
theorem IsS100.own_neS {w0 W : World} {g : Nat} {f0 : List Int} {f1 : Int} {f2 : Int} {α : Type} {d : Kd α} {e : Nat} {base : Nat} {ok : Nat → Prop} {v : Value} {xs : List α} (h : IsS100 w0 W g f0 f1 f2) (ho : d.S e W base ok v xs) (ht : e ≠ 100) : some g ≠ v.ownBlock := by
 obtain ⟨A0, c0, hb, hg, hr0⟩ := h
 exact Kd.S_ne ho hb ht
theorem IsS100.lt {w0 W : World} {g : Nat} {f0 : List Int} {f1 : Int} {f2 : Int} (h : IsS100 w0 W g f0 f1 f2) : g < W.heap.size := by
 obtain ⟨A0, c0, hb, hg, hr0⟩ := h
 exact blk_lt hb
theorem IsS100.ge {w0 W : World} {g : Nat} {f0 : List Int} {f1 : Int} {f2 : Int} (h : IsS100 w0 W g f0 f1 f2) : w0.heap.size ≤ g := by
 obtain ⟨A0, c0, hb, hg, hr0⟩ := h
 exact hg
theorem IsS100.ne_blk {w0 W : World} {g : Nat} {f0 : List Int} {f1 : Int} {f2 : Int} {a : Nat} {cs : Array Value} {t : TypeId} {fr : Nat × Nat} (h : IsS100 w0 W g f0 f1 f2) (hb2 : W.heap[a]? = some (.cells cs t fr)) (ht : t ≠ 100) : g ≠ a := by
 obtain ⟨A0, c0, hb, hg, hr0⟩ := h
 rintro rfl
 rw [hb] at hb2
 injection hb2 with hb2
 injection hb2 with _ ht2
 exact ht ht2.symm
theorem IsS100.far {w0 W : World} {g : Nat} {f0 : List Int} {f1 : Int} {f2 : Int} {p : Addr} (h : IsS100 w0 W g f0 f1 f2) (hne : g ≠ p.block) (u : Value) : IsS100 w0 (W.setCell p u) g f0 f1 f2 := by
 obtain ⟨A0, c0, hb, hg, hr0⟩ := h
 exact ⟨A0, c0, blk_far hb hne u, hg, hr0⟩
theorem cellS100_0 {W : World} {g : Nat} {A0 : Option Addr} {c0 : Nat} {f0 : List Int} {f1 : Int} {f2 : Int} (h : W.heap[g]? = some (.cells #[.slice A0 f0.length c0, .int .i64 f1, .int .i64 f2] 100 (0, 0))) : W.cell? ⟨g, 0, none⟩ = some (.slice A0 f0.length c0) := (blk_cell h 0).trans rfl
theorem cellS100_1 {W : World} {g : Nat} {A0 : Option Addr} {c0 : Nat} {f0 : List Int} {f1 : Int} {f2 : Int} (h : W.heap[g]? = some (.cells #[.slice A0 f0.length c0, .int .i64 f1, .int .i64 f2] 100 (0, 0))) : W.cell? ⟨g, 1, none⟩ = some (.int .i64 f1) := (blk_cell h 1).trans rfl
theorem IsS100.set_1 {w0 W : World} {g : Nat} {f0 : List Int} {f1 : Int} {f2 : Int} (h : IsS100 w0 W g f0 f1 f2) (x : Int) : IsS100 w0 (W.setCell ⟨g, 1, none⟩ (.int .i64 x)) g f0 x f2 := by
 obtain ⟨A0, c0, hb, hg, hr0⟩ := h
 exact ⟨A0, c0, by simpa using blk_set hb 1 (.int .i64 x), hg, hr0⟩
theorem cellS100_2 {W : World} {g : Nat} {A0 : Option Addr} {c0 : Nat} {f0 : List Int} {f1 : Int} {f2 : Int} (h : W.heap[g]? = some (.cells #[.slice A0 f0.length c0, .int .i64 f1, .int .i64 f2] 100 (0, 0))) : W.cell? ⟨g, 2, none⟩ = some (.int .i64 f2) := (blk_cell h 2).trans rfl
theorem IsS100.set_2 {w0 W : World} {g : Nat} {f0 : List Int} {f1 : Int} {f2 : Int} (h : IsS100 w0 W g f0 f1 f2) (x : Int) : IsS100 w0 (W.setCell ⟨g, 2, none⟩ (.int .i64 x)) g f0 f1 x := by
 obtain ⟨A0, c0, hb, hg, hr0⟩ := h
 exact ⟨A0, c0, by simpa using blk_set hb 2 (.int .i64 x), hg, hr0⟩
theorem IsS100.new (w0 W : World) (A0 : Option Addr) (c0 : Nat) (f0 : List Int) (f1 : Int) (f2 : Int) (hB : Below w0.heap.size w0 W) (hr0 : Kd.C (Kd.int .u8) w0 A0 f0.length f0) : IsS100 w0 (W.alloc (.cells #[.slice A0 f0.length c0, .int .i64 f1, .int .i64 f2] 100)) W.heap.size f0 f1 f2 := ⟨A0, c0, by simpa using heap_alloc_new W _, hB.size, hr0⟩
theorem yI {P Q : Prop} (h : Aside0 P) (t : P → Q := by intro h_; repeat (first | (with_reducible first | exact h_ | apply IsS100.alloc | apply IsS100.drewN | apply IsS100.drew | apply IsS100.set_1 | apply IsS100.set_2) | exact h_)) : Q := t h.out
theorem yw {b : Nat} {w w1 w2 : World} (h : Aside0 (Below b w w1)) (t : Below b w w1 → Below b w w2 := by intro h_; repeat (first | (with_reducible first | exact h_ | apply zD | apply zE | apply zF | (refine below_set ?_ (Aside0.out ?_); rotate_left; assumption) | refine below_set ?_ (IsS100.ge (Aside0.out (by assumption)))) | exact h_)) : Below b w w2 := t h.out
theorem ys {w w1 w2 w3 : World} (h : Aside0 (Below w.heap.size w w1)) (hb : Below w2.heap.size w2 w3) (t : Below w.heap.size w w1 → Below w.heap.size w w2 := by intro h_; repeat (first | (with_reducible first | exact h_ | apply zD | apply zE | apply zF | (refine below_set ?_ (Aside0.out ?_); rotate_left; assumption) | refine below_set ?_ (IsS100.ge (Aside0.out (by assumption)))) | exact h_)) : Aside0 (Below w.heap.size w w3) := ⟨below_step (t h.out) hb⟩
theorem yg {g : Nat} {w w1 w2 : World} (h : Aside0 (Below w.heap.size w w1)) (hg : g = w2.heap.size) (t : Below w.heap.size w w1 → Below w.heap.size w w2 := by intro h_; repeat (first | (with_reducible first | exact h_ | apply zD | apply zE | apply zF | (refine below_set ?_ (Aside0.out ?_); rotate_left; assumption) | refine below_set ?_ (IsS100.ge (Aside0.out (by assumption)))) | exact h_)) : Aside0 (w.heap.size ≤ g) := ⟨by rw [hg]; exact below_size (t h.out)⟩
theorem yF {P Q : Prop} (h : Aside0 P) (t : P → Q := by intro h_; repeat (first | (with_reducible first | exact h_ | apply IsS100.alloc | apply IsS100.drewN | apply IsS100.drew | apply IsS100.set_1 | apply IsS100.set_2 | refine IsS100.far ?_ (Aside0.out (by assumption)) _) | exact h_)) : Q := t h.out


/-! ### spec_l01New: function 55 -/
def spec_l01New.l0 : Nat → List Int → Int → Int → Option (List Int × Int × Int)
 | 0, _, _, _ => none
 | k + 1, x0, x3, x4 => if x4 < (x0.length : Int) then (if x4 < 4000 then (if 0 ≤ x4 then (spec_l01New.l0 k x0 (Go.bits .and .i64 (wrap64 ((wrap64 ((wrap64 (x3 * 131)) + (wrap64 (rd x0 x4)))) + 7)) 1073741823) (wrap64 (x4 + 1))) else (none)) else (some (x0, 0, x3))) else (some (x0, 0, x3))
def spec_l01New.f (k : Nat) (l0 : List Int) : Option (List Int × Int × Int) := spec_l01New.l0 k l0 (wrap64 (35201 + (l0.length : Int))) 0
theorem spec_l01New.mono_l : ∀ k, (∀ y0 y1 y2, LeO (spec_l01New.l0 k y0 y1 y2) (spec_l01New.l0 (k + 1) y0 y1 y2))
 | 0 => fun _ _ _ r h => by simp [spec_l01New.l0] at h
 | k + 1 => by
  have ih0 := spec_l01New.mono_l k
  intro y0 y1 y2
  unfold spec_l01New.l0
  repeat' first
  | (with_reducible exact ih0 _ _ _)
  | (with_reducible exact LeO.refl _)
  | (with_reducible exact LeO.none _)
  | (with_reducible refine LeO.ite ?_ ?_)
  | (with_reducible refine LeO.bind ?_ (fun _ => ?_))
  | exact ih0 _ _ _
  | exact LeO.none _
  | refine LeO.ite ?_ ?_
  | refine LeO.bind ?_ (fun _ => ?_)
theorem spec_l01New.mono : ∀ a0 k, LeO (spec_l01New.f k a0) (spec_l01New.f (k + 1) a0) := by
 intro a0 k
 have ih0 := spec_l01New.mono_l k
 unfold spec_l01New.f
 repeat' first
   | (with_reducible exact ih0 _ _ _)
   | (with_reducible exact LeO.refl _)
   | (with_reducible exact LeO.none _)
   | (with_reducible refine LeO.ite ?_ ?_)
   | (with_reducible refine LeO.bind ?_ (fun _ => ?_))
   | exact ih0 _ _ _
   | exact LeO.none _
   | refine LeO.ite ?_ ?_
   | refine LeO.bind ?_ (fun _ => ?_)
set_option maxHeartbeats 8000000 in
set_option maxRecDepth 100000 in
theorem spec_l01New.calls (k : Nat) (A0 : Option Addr) (c0 : Nat) (l0 : List Int) (r1 : List Int) (r2 : Int) (r3 : Int) (w0 w : World) (hB : Below w0.heap.size w0 w) (hr0 : Kd.C (Kd.int .u8) w0 A0 l0.length l0) (hc0 : l0.length ≤ c0) (h : spec_l01New.f k l0 = some (r1, r2, r3)) :
  Calls Try.prog 55 #[.slice A0 l0.length c0] w fun e w' => ∃ g_ : Nat, e = .returned (.pointer (some ⟨g_, 0, none⟩)) ∧ IsS100 w0 w' g_ r1 r2 r3 ∧ Below w0.heap.size w0 w' ∧ Below w.heap.size w w' := by
 have hu100 := Try.underlying100
 have HR0 := Aside0.mk hr0
 have HC0 := Aside0.mk hc0
 clear hr0 hc0
 have HBW := Aside0.mk (Below.refl w.heap.size w)
 have HW0 := Aside0.mk hB.size
 have HB := Aside0.mk hB
 clear hB
 have H : (spec_l01New.l0 k l0 (wrap64 (35201 + (l0.length : Int))) 0) = some (r1, r2, r3) := h
 clear h
 have H' := Aside0.mk H
 clear H
 go_enter Try.func55, Try.ntmps55
 go_wp2
 go_loopg [3, 4] k (fun kq v3 v4 w' => ∃ (Ab : Int) (Aa : Int), v3 = .int .i64 Ab ∧ v4 = .int .i64 Aa ∧ Aside0 (spec_l01New.l0 kq l0 Ab Aa = some (r1, r2, r3)) ∧ Aside0 (kq ≤ k) ∧ Aside0 (Below w0.heap.size w0 w') ∧ Aside0 (Below w.heap.size w w'))
 case atStart => exact ⟨(wrap64 (35201 + (l0.length : Int))), (0), zf, zf, H', ⟨Nat.le_refl _⟩, ⟨zw HB⟩, HBW⟩
 case round =>
  clear H'
  obtain ⟨Ab, Aa, rfl, rfl, HA, Ap, HB, HBW⟩ := hrel
  cases gk with
  | zero => exact absurd HA.out (by simp [spec_l01New.l0])
  | succ k1 =>
   have H := HA.out
   clear HA
   simp only [spec_l01New.l0] at H
   by_cases c2 : Aa < (l0.length : Int)
   ·rw [if_pos c2] at H
    have Ao := decide_eq_true c2
    clear c2
    by_cases c3 : Aa < 4000
    ·rw [if_pos c3] at H
     have Am := decide_eq_true c3
     clear c3
     by_cases c4 : 0 ≤ Aa
     ·rw [if_pos c4] at H
      have c4b0 := decide_eq_true c4
      clear c4
      have H' := Aside0.mk H
      clear H
      have Ag : 0 ≤ (Aa : Int) := of_decide_eq_true za
      have Af : Aa < (l0.length : Int) := of_decide_eq_true za
      obtain ⟨ad250, Al, Ac⟩ := Kd.at_int HR0.out Aa Ag Af
      cases Al
      replace Ac := pw_cell_below HB.out Ac
      replace Ag := eq_true Ag
      replace Af := eq_true Af
      go_wp2
      go_roundg k1
      case measure => have := Ap.out; omega
      case rel => exact ⟨(Go.bits .and .i64 (wrap64 ((wrap64 ((wrap64 (Ab * 131)) + (wrap64 (rd l0 Aa)))) + 7)) 1073741823), (wrap64 (Aa + 1)), zf, zf, H', ⟨by have := Ap.out; omega⟩, ⟨zw HB⟩, ⟨zw HBW⟩⟩
     rw [if_neg c4] at H
     exact absurd H (by simp)
    rw [if_neg c3] at H
    have Am := decide_eq_false c3
    clear c3
    simp only [Option.some.injEq, Prod.mk.injEq] at H
    obtain ⟨rfl, rfl, rfl⟩ := H
    go_wp2_with (first | ((with_reducible refine gate_dst (N := 31) rfl ?_); refine zx (N := 31) (cs := #[.slice A0 l0.length c0, .int .i64 0, .int .i64 Ab]) (t := 100) ?_; intro Ae hg w5 hbox hb; replace HB := zs HB hb; have Ak := Aside0.mk (hbox); have GW251 := zg HBW hg; have Ai := Aside0.mk ((Nat.le_trans HW0.out (by rw [hg]; exact (below_size (zw HBW)) : w.heap.size ≤ Ae) : w0.heap.size ≤ Ae)); replace HBW := Aside0.mk (below_step HBW.out hb); clear hb hbox hg))
    go_ret
    exact ⟨_, rfl, (show IsS100 w0 _ Ae l0 0 Ab from ⟨_, _, zkf Ak, Ai.out, HR0.out⟩), zw HB, zw HBW⟩
   rw [if_neg c2] at H
   have Ao := decide_eq_false c2
   clear c2
   simp only [Option.some.injEq, Prod.mk.injEq] at H
   obtain ⟨rfl, rfl, rfl⟩ := H
   go_wp2_with (first | ((with_reducible refine gate_dst (N := 31) rfl ?_); refine zx (N := 31) (cs := #[.slice A0 l0.length c0, .int .i64 0, .int .i64 Ab]) (t := 100) ?_; intro Ad hg w6 hbox hb; replace HB := zs HB hb; have Aj := Aside0.mk (hbox); have GW252 := zg HBW hg; have Ah := Aside0.mk ((Nat.le_trans HW0.out (by rw [hg]; exact (below_size (zw HBW)) : w.heap.size ≤ Ad) : w0.heap.size ≤ Ad)); replace HBW := Aside0.mk (below_step HBW.out hb); clear hb hbox hg))
   go_ret
   exact ⟨_, rfl, (show IsS100 w0 _ Ad l0 0 Ab from ⟨_, _, zkf Aj, Ah.out, HR0.out⟩), zw HB, zw HBW⟩

/-! ### spec_l01Byte: function 60 -/
def spec_l01Byte.f (s0_0 : List Int) (s0_1 : Int) (s0_2 : Int) : Option (Int × Int × Int) := if s0_1 < (s0_0.length : Int) then (if 0 ≤ s0_1 then (some (Go.bits .and .i64 (wrap64 ((Go.bits .and .i64 (Go.bits .xor .i64 ((wrap64 ((wrap64 (s0_2 * 6364136223846793005)) + 1442695040888963407)) / 8589934592) ((wrap64 ((wrap64 (s0_2 * 6364136223846793005)) + 1442695040888963407)) / 35184372088832)) 255) + (wrap64 (rd s0_0 s0_1)))) 255, wrap64 (s0_1 + 1), wrap64 ((wrap64 (s0_2 * 6364136223846793005)) + 1442695040888963407))) else (none)) else (some (Go.bits .and .i64 (Go.bits .xor .i64 ((wrap64 ((wrap64 (s0_2 * 6364136223846793005)) + 1442695040888963407)) / 8589934592) ((wrap64 ((wrap64 (s0_2 * 6364136223846793005)) + 1442695040888963407)) / 35184372088832)) 255, s0_1, wrap64 ((wrap64 (s0_2 * 6364136223846793005)) + 1442695040888963407)))
set_option maxHeartbeats 8000000 in
set_option maxRecDepth 100000 in
theorem spec_l01Byte.calls (g : Nat) (s0_0 : List Int) (s0_1 : Int) (s0_2 : Int) (r1 : Int) (r2 : Int) (r3 : Int) (w0 w : World) (hI : IsS100 w0 w g s0_0 s0_1 s0_2) (hB : Below w0.heap.size w0 w) (h : spec_l01Byte.f s0_0 s0_1 s0_2 = some (r1, r2, r3)) :
  Calls Try.prog 60 #[.pointer (some ⟨g, 0, none⟩)] w fun e w' => e = .returned (.int .i64 r1) ∧ IsS100 w0 w' g s0_0 r2 r3 ∧ Below w0.heap.size w0 w' ∧ KeepBut w w' g none := by
 have HI0 := Aside0.mk hI
 have HK := Aside0.mk (KeepBut.refl w g none)
 have HL := Aside0.mk hB.size
 clear hI
 have HW0 := Aside0.mk hB.size
 have HB := Aside0.mk hB
 clear hB
 have H : (if s0_1 < (s0_0.length : Int) then (if 0 ≤ s0_1 then (some (Go.bits .and .i64 (wrap64 ((Go.bits .and .i64 (Go.bits .xor .i64 ((wrap64 ((wrap64 (s0_2 * 6364136223846793005)) + 1442695040888963407)) / 8589934592) ((wrap64 ((wrap64 (s0_2 * 6364136223846793005)) + 1442695040888963407)) / 35184372088832)) 255) + (wrap64 (rd s0_0 s0_1)))) 255, wrap64 (s0_1 + 1), wrap64 ((wrap64 (s0_2 * 6364136223846793005)) + 1442695040888963407))) else (none)) else (some (Go.bits .and .i64 (Go.bits .xor .i64 ((wrap64 ((wrap64 (s0_2 * 6364136223846793005)) + 1442695040888963407)) / 8589934592) ((wrap64 ((wrap64 (s0_2 * 6364136223846793005)) + 1442695040888963407)) / 35184372088832)) 255, s0_1, wrap64 ((wrap64 (s0_2 * 6364136223846793005)) + 1442695040888963407)))) = some (r1, r2, r3) := h
 clear h
 by_cases c2 : s0_1 < (s0_0.length : Int)
 ·rw [if_pos c2] at H
  have Ag := decide_eq_true c2
  clear c2
  by_cases c3 : 0 ≤ s0_1
  ·rw [if_pos c3] at H
   have c3b0 := decide_eq_true c3
   clear c3
   simp only [Option.some.injEq, Prod.mk.injEq] at H
   obtain ⟨rfl, rfl, rfl⟩ := H
   obtain ⟨ASz4_0, cSz4_0, HGz4, hgz4, HSz4_0⟩ := HI0.out
   have m4_0 := cellS100_0 HGz4
   have m4_1 := cellS100_1 HGz4
   have m4_2 := cellS100_2 HGz4
   have n4_1 := blk_frozen HGz4 1
   have n4_2 := blk_frozen HGz4 2
   clear HGz4 hgz4
   have Ad : 0 ≤ (s0_1 : Int) := of_decide_eq_true za
   have Ac : s0_1 < (s0_0.length : Int) := of_decide_eq_true za
   obtain ⟨Ae, Af, Aa⟩ := Kd.at_int HSz4_0 s0_1 Ad Ac
   cases Af
   have Ab : Ae.block ≠ g := Nat.ne_of_lt (Nat.lt_of_lt_of_le (by have := World.block_lt_of_cell? _ _ Aa; first | rwa [add_block] at this | exact this) (IsS100.ge HI0.out))
   replace Aa := pw_cell_below HB.out Aa
   replace Aa := (cell_far (p := ⟨g, 2, none⟩) (by first | (rw [add_block]; exact Ab) | (show (Addr.add _ _).block ≠ _; rw [add_block]; exact Ab) | exact Ab) (.int .i64 (wrap64 ((wrap64 (s0_2 * 6364136223846793005)) + 1442695040888963407)))).trans Aa
   (try have hy253_0 := fun (n_ : Nat) => (show (((w.drewN n_).setCell ⟨g, 2, none⟩ (.int .i64 (wrap64 ((wrap64 (s0_2 * 6364136223846793005)) + 1442695040888963407))))).cell? _ = some _ from Aa))
   clear Ab
   replace Ad := eq_true Ad
   replace Ac := eq_true Ac
   go_enter Try.func60, Try.ntmps60
   go_wp2
   repeat (go_quiet (fail); try go_wp2)
   go_ret
   exact ⟨ze, yI HI0, yw HB, by repeat (first | (with_reducible first | exact HK.out | apply KeepBut.set_ | apply keep_drewN | apply keep_drew | apply keep_alloc) | exact HK.out)⟩
  rw [if_neg c3] at H
  exact absurd H (by simp)
 rw [if_neg c2] at H
 have Ag := decide_eq_false c2
 clear c2
 simp only [Option.some.injEq, Prod.mk.injEq] at H
 obtain ⟨rfl, rfl, rfl⟩ := H
 obtain ⟨ASz5_0, cSz5_0, HGz5, hgz5, HSz5_0⟩ := HI0.out
 have m5_0 := cellS100_0 HGz5
 have m5_1 := cellS100_1 HGz5
 have m5_2 := cellS100_2 HGz5
 have n5_1 := blk_frozen HGz5 1
 have n5_2 := blk_frozen HGz5 2
 clear HGz5 hgz5
 go_enter Try.func60, Try.ntmps60
 go_wp2
 repeat (go_quiet (fail); try go_wp2)
 go_ret
 exact ⟨ze, yI HI0, yw HB, by repeat (first | (with_reducible first | exact HK.out | apply KeepBut.set_ | apply keep_drewN | apply keep_drew | apply keep_alloc) | exact HK.out)⟩

/-! ### spec_l01Below: function 56 -/
def spec_l01Below.f (s0_0 : List Int) (s0_1 : Int) (s0_2 : Int) (a1 : Int) : Option (Int × Int × Int) := if a1 ≤ 0 then (some (0, s0_1, s0_2)) else (if a1 ≤ 256 then ((spec_l01Byte.f s0_0 s0_1 s0_2).bind fun bt254 => (if a1 = 0 then (none) else (some (Int.tmod bt254.1 a1, bt254.2.1, bt254.2.2)))) else ((spec_l01Byte.f s0_0 s0_1 s0_2).bind fun bt257 => ((spec_l01Byte.f s0_0 bt257.2.1 bt257.2.2).bind fun bt260 => ((spec_l01Byte.f s0_0 bt260.2.1 bt260.2.2).bind fun bt263 => ((spec_l01Byte.f s0_0 bt263.2.1 bt263.2.2).bind fun bt266 => (if a1 = 0 then (none) else (some (Int.tmod (wrap64 ((wrap64 ((wrap64 ((wrap64 (bt257.1 * 16777216)) + (wrap64 (bt260.1 * 65536)))) + (wrap64 (bt263.1 * 256)))) + bt266.1)) a1, bt266.2.1, bt266.2.2))))))))
set_option maxHeartbeats 8000000 in
set_option maxRecDepth 100000 in
theorem spec_l01Below.calls (g : Nat) (s0_0 : List Int) (s0_1 : Int) (s0_2 : Int) (a1 : Int) (r1 : Int) (r2 : Int) (r3 : Int) (w0 w : World) (hI : IsS100 w0 w g s0_0 s0_1 s0_2) (hB : Below w0.heap.size w0 w) (h : spec_l01Below.f s0_0 s0_1 s0_2 a1 = some (r1, r2, r3)) :
  Calls Try.prog 56 #[.pointer (some ⟨g, 0, none⟩), .int .i64 a1] w fun e w' => e = .returned (.int .i64 r1) ∧ IsS100 w0 w' g s0_0 r2 r3 ∧ Below w0.heap.size w0 w' ∧ KeepBut w w' g none := by
 have HI0 := Aside0.mk hI
 have HK := Aside0.mk (KeepBut.refl w g none)
 have HL := Aside0.mk hB.size
 clear hI
 have HW0 := Aside0.mk hB.size
 have HB := Aside0.mk hB
 clear hB
 have H : (if a1 ≤ 0 then (some (0, s0_1, s0_2)) else (if a1 ≤ 256 then ((spec_l01Byte.f s0_0 s0_1 s0_2).bind fun Af => (if a1 = 0 then (none) else (some (Int.tmod Af.1 a1, Af.2.1, Af.2.2)))) else ((spec_l01Byte.f s0_0 s0_1 s0_2).bind fun Ae => ((spec_l01Byte.f s0_0 Ae.2.1 Ae.2.2).bind fun Ac => ((spec_l01Byte.f s0_0 Ac.2.1 Ac.2.2).bind fun Ab => ((spec_l01Byte.f s0_0 Ab.2.1 Ab.2.2).bind fun Aa => (if a1 = 0 then (none) else (some (Int.tmod (wrap64 ((wrap64 ((wrap64 ((wrap64 (Ae.1 * 16777216)) + (wrap64 (Ac.1 * 65536)))) + (wrap64 (Ab.1 * 256)))) + Aa.1)) a1, Aa.2.1, Aa.2.2))))))))) = some (r1, r2, r3) := h
 clear h
 by_cases c3 : a1 ≤ 0
 ·rw [if_pos c3] at H
  have Bb := decide_eq_true c3
  clear c3
  simp only [Option.some.injEq, Prod.mk.injEq] at H
  obtain ⟨rfl, rfl, rfl⟩ := H
  go_enter Try.func56, Try.ntmps56
  go_wp2
  go_ret
  exact ⟨ze, yI HI0, yw HB, by repeat (first | (with_reducible first | exact HK.out | apply KeepBut.set_ | apply keep_drewN | apply keep_drew | apply keep_alloc) | exact HK.out)⟩
 rw [if_neg c3] at H
 have Bb := decide_eq_false c3
 clear c3
 by_cases c4 : a1 ≤ 256
 ·rw [if_pos c4] at H
  have Ba := decide_eq_true c4
  clear c4
  replace H := Option.bind_eq_some_iff.mp H
  obtain ⟨⟨Aw, Au, As⟩, Be, H⟩ := H
  replace H : (if a1 = 0 then (none) else (some (Int.tmod Aw a1, Au, As))) = some (r1, r2, r3) := H
  have A5 := Aside0.mk Be
  clear Be
  by_cases c6 : a1 = 0
  ·rw [if_pos c6] at H
   exact absurd H (by simp)
  rw [if_neg c6] at H
  have c6b0 : (a1 == 0) = false := beq_eq_false_iff_ne.mpr c6
  have c6b1 : (a1 != 0) = true := bne_iff_ne.mpr c6
  simp only [Option.some.injEq, Prod.mk.injEq] at H
  obtain ⟨rfl, rfl, rfl⟩ := H
  go_enter Try.func56, Try.ntmps56
  go_wp2_with (first | ((with_reducible refine gate_callee (f := 60) rfl ?_); refine zG (some 14) Try.func60 #[.pointer (some ⟨g, 0, none⟩)] ?_; (with_reducible refine (spec_l01Byte.calls g s0_0 s0_1 s0_2 Aw Au As w0 _ ?side1 ?side2 A5.out).mono ?_); (case side1 => exact yI HI0); (case side2 => exact yw HB); rintro e w7 ⟨rfl, hi, hb, hk⟩; refine ⟨_, rfl, ?_⟩; replace HK := zKt HK hk; replace HB := Aside0.mk (hb); replace HI0 := Aside0.mk (hi); clear hi hb hk))
  go_ret
  exact ⟨ze, yI HI0, yw HB, by repeat (first | (with_reducible first | exact HK.out | apply KeepBut.set_ | apply keep_drewN | apply keep_drew | apply keep_alloc) | exact HK.out)⟩
 rw [if_neg c4] at H
 have Ba := decide_eq_false c4
 clear c4
 replace H := Option.bind_eq_some_iff.mp H
 obtain ⟨⟨Ad, Ao, Am⟩, Bd, H⟩ := H
 replace H : ((spec_l01Byte.f s0_0 Ao Am).bind fun Ac => ((spec_l01Byte.f s0_0 Ac.2.1 Ac.2.2).bind fun Ab => ((spec_l01Byte.f s0_0 Ab.2.1 Ab.2.2).bind fun Aa => (if a1 = 0 then (none) else (some (Int.tmod (wrap64 ((wrap64 ((wrap64 ((wrap64 (Ad * 16777216)) + (wrap64 (Ac.1 * 65536)))) + (wrap64 (Ab.1 * 256)))) + Aa.1)) a1, Aa.2.1, Aa.2.2)))))) = some (r1, r2, r3) := H
 have A8 := Aside0.mk Bd
 clear Bd
 replace H := Option.bind_eq_some_iff.mp H
 obtain ⟨⟨Ag, Al, Ak⟩, Bc, H⟩ := H
 replace H : ((spec_l01Byte.f s0_0 Al Ak).bind fun Ab => ((spec_l01Byte.f s0_0 Ab.2.1 Ab.2.2).bind fun Aa => (if a1 = 0 then (none) else (some (Int.tmod (wrap64 ((wrap64 ((wrap64 ((wrap64 (Ad * 16777216)) + (wrap64 (Ag * 65536)))) + (wrap64 (Ab.1 * 256)))) + Aa.1)) a1, Aa.2.1, Aa.2.2))))) = some (r1, r2, r3) := H
 have A9 := Aside0.mk Bc
 clear Bc
 replace H := Option.bind_eq_some_iff.mp H
 obtain ⟨⟨Aj, Ai, Ah⟩, Ay, H⟩ := H
 replace H : ((spec_l01Byte.f s0_0 Ai Ah).bind fun Aa => (if a1 = 0 then (none) else (some (Int.tmod (wrap64 ((wrap64 ((wrap64 ((wrap64 (Ad * 16777216)) + (wrap64 (Ag * 65536)))) + (wrap64 (Aj * 256)))) + Aa.1)) a1, Aa.2.1, Aa.2.2)))) = some (r1, r2, r3) := H
 have Bg := Aside0.mk Ay
 clear Ay
 replace H := Option.bind_eq_some_iff.mp H
 obtain ⟨⟨Ar, Aq, Ap⟩, Ax, H⟩ := H
 replace H : (if a1 = 0 then (none) else (some (Int.tmod (wrap64 ((wrap64 ((wrap64 ((wrap64 (Ad * 16777216)) + (wrap64 (Ag * 65536)))) + (wrap64 (Aj * 256)))) + Ar)) a1, Aq, Ap))) = some (r1, r2, r3) := H
 have Bf := Aside0.mk Ax
 clear Ax
 by_cases Az : a1 = 0
 ·rw [if_pos Az] at H
  exact absurd H (by simp)
 rw [if_neg Az] at H
 have c12b0 : (a1 == 0) = false := beq_eq_false_iff_ne.mpr Az
 have c12b1 : (a1 != 0) = true := bne_iff_ne.mpr Az
 simp only [Option.some.injEq, Prod.mk.injEq] at H
 obtain ⟨rfl, rfl, rfl⟩ := H
 go_enter Try.func56, Try.ntmps56
 go_wp2_with (first | ((with_reducible refine gate_callee (f := 60) rfl ?_); refine zG (some 18) Try.func60 #[.pointer (some ⟨g, 0, none⟩)] ?_; (with_reducible refine (spec_l01Byte.calls g s0_0 s0_1 s0_2 Ad Ao Am w0 _ ?side1 ?side2 A8.out).mono ?_); (case side1 => exact yI HI0); (case side2 => exact yw HB); rintro e w13 ⟨rfl, hi, hb, hk⟩; refine ⟨_, rfl, ?_⟩; replace HK := zKt HK hk; replace HB := Aside0.mk (hb); replace HI0 := Aside0.mk (hi); clear hi hb hk) | ((with_reducible refine gate_callee (f := 60) rfl ?_); refine zG (some 20) Try.func60 #[.pointer (some ⟨g, 0, none⟩)] ?_; (with_reducible refine (spec_l01Byte.calls g s0_0 Ao Am Ag Al Ak w0 _ ?side1 ?side2 A9.out).mono ?_); (case side1 => exact yI HI0); (case side2 => exact yw HB); rintro e w14 ⟨rfl, hi, hb, hk⟩; refine ⟨_, rfl, ?_⟩; replace HK := zKt HK hk; replace HB := Aside0.mk (hb); replace HI0 := Aside0.mk (hi); clear hi hb hk) | ((with_reducible refine gate_callee (f := 60) rfl ?_); refine zG (some 22) Try.func60 #[.pointer (some ⟨g, 0, none⟩)] ?_; (with_reducible refine (spec_l01Byte.calls g s0_0 Al Ak Aj Ai Ah w0 _ ?side1 ?side2 Bg.out).mono ?_); (case side1 => exact yI HI0); (case side2 => exact yw HB); rintro e w15 ⟨rfl, hi, hb, hk⟩; refine ⟨_, rfl, ?_⟩; replace HK := zKt HK hk; replace HB := Aside0.mk (hb); replace HI0 := Aside0.mk (hi); clear hi hb hk) | ((with_reducible refine gate_callee (f := 60) rfl ?_); refine zG (some 24) Try.func60 #[.pointer (some ⟨g, 0, none⟩)] ?_; (with_reducible refine (spec_l01Byte.calls g s0_0 Ai Ah Ar Aq Ap w0 _ ?side1 ?side2 Bf.out).mono ?_); (case side1 => exact yI HI0); (case side2 => exact yw HB); rintro e w16 ⟨rfl, hi, hb, hk⟩; refine ⟨_, rfl, ?_⟩; replace HK := zKt HK hk; replace HB := Aside0.mk (hb); replace HI0 := Aside0.mk (hi); clear hi hb hk))
 go_ret
 exact ⟨ze, yI HI0, yw HB, by repeat (first | (with_reducible first | exact HK.out | apply KeepBut.set_ | apply keep_drewN | apply keep_drew | apply keep_alloc) | exact HK.out)⟩

/-! ### spec_l01Text: function 57 -/
mutual
def spec_l01Text.j0 : Nat → Int → List Int → Int → Int → Option (ByteArray × Int × Int)
 | 0, _, _, _, _ => none
 | k + 1, x1, x1000, x1001, x1002 => spec_l01Text.l0 k x1 (([] : List Int)) 0 x1000 x1001 x1002
def spec_l01Text.l0 : Nat → Int → List Int → Int → List Int → Int → Int → Option (ByteArray × Int × Int)
 | 0, _, _, _, _, _, _ => none
 | k + 1, x1, x5, x6, x1000, x1001, x1002 => if x6 < x1 then ((spec_l01Byte.f x1000 x1001 x1002).bind fun bt272 => (if x5.length < 140737488355328 then (spec_l01Text.l0 k x1 (x5 ++ [(bt272.1) % 256]) (wrap64 (x6 + 1)) x1000 bt272.2.1 bt272.2.2) else (none))) else (some (strOfNums x5, x1001, x1002))
end
def spec_l01Text.f (k : Nat) (s0_0 : List Int) (s0_1 : Int) (s0_2 : Int) (a1 : Int) : Option (ByteArray × Int × Int) := if a1 > 5000 then (spec_l01Text.j0 k 5000 s0_0 s0_1 s0_2) else (spec_l01Text.j0 k a1 s0_0 s0_1 s0_2)
theorem spec_l01Text.mono_l : ∀ k, (∀ y0 y1 y2 y3, LeO (spec_l01Text.j0 k y0 y1 y2 y3) (spec_l01Text.j0 (k + 1) y0 y1 y2 y3)) ∧ (∀ y0 y1 y2 y3 y4 y5, LeO (spec_l01Text.l0 k y0 y1 y2 y3 y4 y5) (spec_l01Text.l0 (k + 1) y0 y1 y2 y3 y4 y5))
 | 0 => ⟨fun _ _ _ _ r h => by simp [spec_l01Text.j0] at h, fun _ _ _ _ _ _ r h => by simp [spec_l01Text.l0] at h⟩
 | k + 1 => by
  obtain ⟨ih0, ih1⟩ := spec_l01Text.mono_l k
  refine ⟨?_, ?_⟩
  ·intro y0 y1 y2 y3
   unfold spec_l01Text.j0
   repeat' first
   | (with_reducible exact ih0 _ _ _ _)
   | (with_reducible exact ih1 _ _ _ _ _ _)
   | (with_reducible exact LeO.refl _)
   | (with_reducible exact LeO.none _)
   | (with_reducible refine LeO.ite ?_ ?_)
   | (with_reducible refine LeO.bind ?_ (fun _ => ?_))
   | exact ih0 _ _ _ _
   | exact ih1 _ _ _ _ _ _
   | exact LeO.none _
   | refine LeO.ite ?_ ?_
   | refine LeO.bind ?_ (fun _ => ?_)
  intro y0 y1 y2 y3 y4 y5
  unfold spec_l01Text.l0
  repeat' first
  | (with_reducible exact ih0 _ _ _ _)
  | (with_reducible exact ih1 _ _ _ _ _ _)
  | (with_reducible exact LeO.refl _)
  | (with_reducible exact LeO.none _)
  | (with_reducible refine LeO.ite ?_ ?_)
  | (with_reducible refine LeO.bind ?_ (fun _ => ?_))
  | exact ih0 _ _ _ _
  | exact ih1 _ _ _ _ _ _
  | exact LeO.none _
  | refine LeO.ite ?_ ?_
  | refine LeO.bind ?_ (fun _ => ?_)
theorem spec_l01Text.mono : ∀ a0 a1 a2 a3 k, LeO (spec_l01Text.f k a0 a1 a2 a3) (spec_l01Text.f (k + 1) a0 a1 a2 a3) := by
 intro a0 a1 a2 a3 k
 obtain ⟨ih0, ih1⟩ := spec_l01Text.mono_l k
 unfold spec_l01Text.f
 repeat' first
   | (with_reducible exact ih0 _ _ _ _)
   | (with_reducible exact ih1 _ _ _ _ _ _)
   | (with_reducible exact LeO.refl _)
   | (with_reducible exact LeO.none _)
   | (with_reducible refine LeO.ite ?_ ?_)
   | (with_reducible refine LeO.bind ?_ (fun _ => ?_))
   | exact ih0 _ _ _ _
   | exact ih1 _ _ _ _ _ _
   | exact LeO.none _
   | refine LeO.ite ?_ ?_
   | refine LeO.bind ?_ (fun _ => ?_)
set_option maxHeartbeats 8000000 in
set_option maxRecDepth 100000 in
theorem spec_l01Text.calls (k : Nat) (g : Nat) (s0_0 : List Int) (s0_1 : Int) (s0_2 : Int) (a1 : Int) (r1 : ByteArray) (r2 : Int) (r3 : Int) (w0 w : World) (hI : IsS100 w0 w g s0_0 s0_1 s0_2) (hB : Below w0.heap.size w0 w) (h : spec_l01Text.f k s0_0 s0_1 s0_2 a1 = some (r1, r2, r3)) :
  Calls Try.prog 57 #[.pointer (some ⟨g, 0, none⟩), .int .i64 a1] w fun e w' => e = .returned (.string r1) ∧ IsS100 w0 w' g s0_0 r2 r3 ∧ Below w0.heap.size w0 w' ∧ KeepBut w w' g none := by
 have HI0 := Aside0.mk hI
 have HK := Aside0.mk (KeepBut.refl w g none)
 have HL := Aside0.mk hB.size
 clear hI
 have HW0 := Aside0.mk hB.size
 have HB := Aside0.mk hB
 clear hB
 have H : (if a1 > 5000 then (spec_l01Text.j0 k 5000 s0_0 s0_1 s0_2) else (spec_l01Text.j0 k a1 s0_0 s0_1 s0_2)) = some (r1, r2, r3) := h
 clear h
 have Aw := Aside0.mk H
 clear H
 go_enter Try.func57, Try.ntmps57
 go_upto_if 8 with (fail)
 go_cut [1] (fun v1 wc => ∃ (kq : Nat) (Ad : Int), v1 = .int .i64 Ad ∧ Aside0 (spec_l01Text.j0 kq Ad s0_0 s0_1 s0_2 = some (r1, r2, r3)) ∧ Aside0 (kq ≤ k) ∧ Aside0 (IsS100 w0 wc g s0_0 s0_1 s0_2) ∧ Aside0 (KeepBut w wc g none) ∧ Aside0 (Below w0.heap.size w0 wc))
 case first =>
  have H := Aw.out
  clear Aw
  by_cases c4 : a1 > 5000
  ·rw [if_pos c4] at H
   have Af : decide (5000 < a1) = true := decide_eq_true c4
   clear c4
   (first | rw [Af] | (simp only [i64_w, i32_w]; rw [Af]) | skip)
   have H' := Aside0.mk H
   clear H
   go_wp2
   go_meet
   case rel => exact ⟨_, (5000), zf, H', ⟨by first | omega | exact Nat.le_refl _⟩, ⟨yI HI0⟩, ⟨by repeat (first | (with_reducible first | exact HK.out | apply KeepBut.set_ | apply keep_drewN | apply keep_drew | apply keep_alloc) | exact HK.out)⟩, ⟨yw HB⟩⟩
  rw [if_neg c4] at H
  have Af : decide (5000 < a1) = false := decide_eq_false c4
  clear c4
  (first | rw [Af] | (simp only [i64_w, i32_w]; rw [Af]) | skip)
  have H' := Aside0.mk H
  clear H
  go_wp2
  go_meet
  case rel => exact ⟨_, (a1), zf, H', ⟨by first | omega | exact Nat.le_refl _⟩, ⟨yI HI0⟩, ⟨by repeat (first | (with_reducible first | exact HK.out | apply KeepBut.set_ | apply keep_drewN | apply keep_drew | apply keep_alloc) | exact HK.out)⟩, ⟨yw HB⟩⟩
 case rest =>
  clear Aw
  try clear p2
  try clear c4
  try clear Af
  obtain ⟨kq, Ad, rfl, HA, HJ2, HI0, HK, HB⟩ := hcut
  cases kq with
  | zero => exact absurd HA.out (by simp [spec_l01Text.j0])
  | succ As =>
   have H := HA.out
   clear HA
   simp only [spec_l01Text.j0] at H
   obtain ⟨Ao, Aj⟩ : ∃ y_ : List Int, y_ = (([] : List Int)) := ⟨_, rfl⟩
   replace H : (spec_l01Text.l0 As Ad Ao 0 s0_0 s0_1 s0_2) = some (r1, r2, r3) := zrw Aj H
   have Ny269 := Aside0.mk Aj
   clear Aj
   have H' := Aside0.mk H
   clear H
   go_wp2_with (first | ((with_reducible refine gate_dst (N := 9) rfl ?_); refine Kd.R_lit (Kd.int .u8) _ 5 ?hg (N := 9) ?hd (xs := ([] : List Int)) (inner := []) (ok := fun _ => True) (okp := fun _ => True) ?hr ?hp (fun _ hk => hk) trivial (Below.refl _ _) (Nat.le_refl _) (by simp) ?_; (case hd => rfl); (case hg => rfl); (case hr => first | (go_simp; done) | (go_simp; rfl)); (case hp => exact (Reps.none _ _)); intro v270 w5 Ap hb hg_ hnew_; clear hg_ hnew_; (first | rw [← Ny269.out] at Ap | (simp only [Int.reduceToNat] at Ap; rw [← Ny269.out] at Ap)); have Ar := Aside0.mk (Kd.R_lower Ap (zKs HK)); replace HK := zKt HK (KeepBut.of_below hb g none); replace HB := ys HB hb; replace HI0 := Aside0.mk (IsS100.below (yI HI0) hb); clear hb Ap))
   go_loopg [5, 6] As (fun kq v5 v6 w' => ∃ (Ac : List Int) (Ae : Int) (Ab : Int) (Aa : Int), v6 = .int .i64 Ae ∧ Aside0 (spec_l01Text.l0 kq Ad Ac Ae s0_0 Ab Aa = some (r1, r2, r3)) ∧ Aside0 (kq ≤ As) ∧ Aside0 (Kd.R (Kd.int .u8) 5 w' w.heap.size (fun _ => True) v5 Ac) ∧ Aside0 (IsS100 w0 w' g s0_0 Ab Aa) ∧ Aside0 (KeepBut w w' g none) ∧ Aside0 (Below w0.heap.size w0 w'))
   case atStart => exact ⟨(Ao), (0), (s0_1), (s0_2), zf, H', ⟨Nat.le_refl _⟩, ⟨zo Ar.out⟩, ⟨yI HI0⟩, ⟨by repeat (first | (with_reducible first | exact HK.out | apply KeepBut.set_ | apply keep_drewN | apply keep_drew | apply keep_alloc) | exact HK.out)⟩, ⟨yw HB⟩⟩
   case round =>
    clear H'
    try clear p2
    try clear c4
    try clear Af
    try clear c5
    try clear p2
    obtain ⟨Ac, Ae, Ab, Aa, rfl, HA, Ax, Ag, HI0, HK, HB⟩ := hrel
    cases gk with
    | zero => exact absurd HA.out (by simp [spec_l01Text.l0])
    | succ k2 =>
     have H := HA.out
     clear HA
     simp only [spec_l01Text.l0] at H
     by_cases c7 : Ae < Ad
     ·rw [if_pos c7] at H
      have Au := decide_eq_true c7
      clear c7
      replace H := Option.bind_eq_some_iff.mp H
      obtain ⟨⟨Ah, Al, Ak⟩, Ay, H⟩ := H
      replace H : (if Ac.length < 140737488355328 then (spec_l01Text.l0 k2 Ad (Ac ++ [(Ah) % 256]) (wrap64 (Ae + 1)) s0_0 Al Ak) else (none)) = some (r1, r2, r3) := H
      have A8 := Aside0.mk Ay
      clear Ay
      by_cases c9 : Ac.length < 140737488355328
      ·rw [if_pos c9] at H
       have LMc9 := Aside0.mk c9
       clear c9
       obtain ⟨Am, Ai⟩ : ∃ y_ : List Int, y_ = (Ac ++ [(Ah) % 256]) := ⟨_, rfl⟩
       replace H : (spec_l01Text.l0 k2 Ad Am (wrap64 (Ae + 1)) s0_0 Al Ak) = some (r1, r2, r3) := zrw Ai H
       have Ny275 := Aside0.mk Ai
       clear Ai
       have H' := Aside0.mk H
       clear H
       go_wp2_with (first | ((with_reducible refine gate_callee (f := 60) rfl ?_); refine zG (some 17) Try.func60 #[.pointer (some ⟨g, 0, none⟩)] ?_; (with_reducible refine (spec_l01Byte.calls g s0_0 Ab Aa Ah Al Ak w0 _ ?side1 ?side2 A8.out).mono ?_); (case side1 => exact yI HI0); (case side2 => exact yw HB); rintro e w10 ⟨rfl, hi, hb, hk⟩; refine ⟨_, rfl, ?_⟩; replace Ag := Aside0.mk (Kd.R_mono (Kd.R_keep (IsS100.apart (show IsS100 w0 _ g s0_0 Ab Aa from yI HI0) (zo Ag.out) (by decide)) hk (fun _ h => h.2)) (fun _ h => h.1)); replace HK := zKt HK hk; replace HB := Aside0.mk (hb); replace HI0 := Aside0.mk (hi); clear hi hb hk) | ((with_reducible refine gate_builtin (b := .append) (xs := #[.tmp 15, .tmp 19]) rfl ?_); at_builtin; refine Kd.R_append (Kd.int .u8) w.heap.size rfl (.tmp 15) (.tmp 19) 36 5 (.int .u8 0) 1 rfl Try.underlying36 info5 rfl (by decide) (by omega) u5 Ac ((Ah) % 256) [.int .u8 ((Ah) % 256)] (fun _ => True) (fun _ => False) rfl rfl ?aP (fun _ hk => hk.elim) ?aF ?aO (Below.refl _ _) ?aS ?aL ?_; (case aP => exact rfl); (case aF => exact (fun _ _ => trivial)); (case aO => exact (zo Ag.out)); (case aS => exact (zKs HK)); (case aL => have := LMc9.out; omega); intro v276 w11 ho hb hg hat; rw [← Ny275.out] at ho; replace HB := Aside0.mk (below_weaken (yw HB) HL.out hb); replace HI0 := Aside0.mk (IsS100.grown (yI HI0) hg (IsS100.own_ne HI0.out Ag.out (by decide))); replace HK := Aside0.mk (KeepBut.trans (by repeat (first | (with_reducible first | exact HK.out | apply KeepBut.set_ | apply keep_drewN | apply keep_drew | apply keep_alloc) | exact HK.out)) (KeepBut.of_grown hg g) (Kd.R_base2 Ag.out)); have Aq := Aside0.mk (ho); clear Ag; clear ho hb hg hat))
       go_roundg k2
       case measure => have := HJ2.out; have := Ax.out; omega
       case rel => exact ⟨(Am), (wrap64 (Ae + 1)), (Al), (Ak), zf, H', ⟨by have := HJ2.out; have := Ax.out; omega⟩, ⟨zo Aq.out⟩, ⟨yI HI0⟩, ⟨by repeat (first | (with_reducible first | exact HK.out | apply KeepBut.set_ | apply keep_drewN | apply keep_drew | apply keep_alloc) | exact HK.out)⟩, ⟨yw HB⟩⟩
      rw [if_neg c9] at H
      exact absurd H (by simp)
     rw [if_neg c7] at H
     have Au := decide_eq_false c7
     clear c7
     simp only [Option.some.injEq, Prod.mk.injEq] at H
     obtain ⟨rfl, rfl, rfl⟩ := H
     have hcv12 := own_string (P := Try.prog) Try.underlying36 Try.underlying5 Try.underlying9 (Kd.own_of_R Ag.out)
     go_wp2
     go_ret
     exact ⟨ze, yI HI0, yw HB, by repeat (first | (with_reducible first | exact HK.out | apply KeepBut.set_ | apply keep_drewN | apply keep_drew | apply keep_alloc) | exact HK.out)⟩

/-! ### spec_l01Pick: function 79 -/
def spec_l01Pick.f (s0_0 : List Int) (s0_1 : Int) (s0_2 : Int) (l1 : List ByteArray) : Option (ByteArray × Int × Int) := (spec_l01Below.f s0_0 s0_1 s0_2 (l1.length : Int)).bind fun bt278 => (if 0 ≤ bt278.1 then (if bt278.1 < (l1.length : Int) then (some (rdOf ByteArray.empty l1 bt278.1, bt278.2.1, bt278.2.2)) else (none)) else (none))
set_option maxHeartbeats 8000000 in
set_option maxRecDepth 100000 in
theorem spec_l01Pick.calls (g : Nat) (s0_0 : List Int) (s0_1 : Int) (s0_2 : Int) (A1 : Option Addr) (c1 : Nat) (l1 : List ByteArray) (r1 : ByteArray) (r2 : Int) (r3 : Int) (w0 w : World) (hI : IsS100 w0 w g s0_0 s0_1 s0_2) (hB : Below w0.heap.size w0 w) (hr1 : Kd.C Kd.string w A1 l1.length l1) (hc1 : l1.length ≤ c1) (hf1 : ∀ ad, A1 = some ad → 0 < l1.length → ad.block ≠ g) (h : spec_l01Pick.f s0_0 s0_1 s0_2 l1 = some (r1, r2, r3)) :
  Calls Try.prog 79 #[.pointer (some ⟨g, 0, none⟩), .slice A1 l1.length c1] w fun e w' => e = .returned (.string r1) ∧ IsS100 w0 w' g s0_0 r2 r3 ∧ Below w0.heap.size w0 w' ∧ KeepBut w w' g none := by
 have HR1 := Aside0.mk hr1
 have HC1 := Aside0.mk hc1
 clear hr1 hc1
 have HI0 := Aside0.mk hI
 have HK := Aside0.mk (KeepBut.refl w g none)
 have HL := Aside0.mk hB.size
 clear hI
 have HW0 := Aside0.mk hB.size
 have HB := Aside0.mk hB
 clear hB
 have H : ((spec_l01Below.f s0_0 s0_1 s0_2 (l1.length : Int)).bind fun Ab => (if 0 ≤ Ab.1 then (if Ab.1 < (l1.length : Int) then (some (rdOf ByteArray.empty l1 Ab.1, Ab.2.1, Ab.2.2)) else (none)) else (none))) = some (r1, r2, r3) := h
 clear h
 replace H := Option.bind_eq_some_iff.mp H
 obtain ⟨⟨Aa, Ag, Af⟩, Aj, H⟩ := H
 replace H : (if 0 ≤ Aa then (if Aa < (l1.length : Int) then (some (rdOf ByteArray.empty l1 Aa, Ag, Af)) else (none)) else (none)) = some (r1, r2, r3) := H
 have A3 := Aside0.mk Aj
 clear Aj
 by_cases c4 : 0 ≤ Aa
 ·rw [if_pos c4] at H
  have c4b0 := decide_eq_true c4
  clear c4
  by_cases c5 : Aa < (l1.length : Int)
  ·rw [if_pos c5] at H
   have c5b0 := decide_eq_true c5
   clear c5
   simp only [Option.some.injEq, Prod.mk.injEq] at H
   obtain ⟨rfl, rfl, rfl⟩ := H
   go_enter Try.func79, Try.ntmps79
   go_wp2_with (first | ((with_reducible refine gate_callee (f := 56) rfl ?_); refine zG (some 9) Try.func56 #[.pointer (some ⟨g, 0, none⟩), .int .i64 (l1.length : Int)] ?_; (with_reducible refine (spec_l01Below.calls g s0_0 s0_1 s0_2 (l1.length : Int) Aa Ag Af w0 _ ?side1 ?side2 A3.out).mono ?_); (case side1 => exact yI HI0); (case side2 => exact yw HB); rintro e w6 ⟨rfl, hi, hb, hk⟩; refine ⟨_, rfl, ?_⟩; replace HK := zKt HK hk; replace HB := Aside0.mk (hb); replace HI0 := Aside0.mk (hi); clear hi hb hk; have Ae : 0 ≤ (Aa : Int) := of_decide_eq_true za; have Ad : Aa < (l1.length : Int) := of_decide_eq_true za; obtain ⟨Ah, Ai, Ac⟩ := Kd.at_string HR1.out Aa Ae Ad; cases Ai; replace Ac := keep_cell HK.out Ac (by first | (rw [add_block]; exact hf1 _ rfl (by omega)) | exact hf1 _ rfl (by omega) | exact hf1 Ah rfl (by omega)); replace Ae := eq_true Ae; replace Ad := eq_true Ad))
   go_ret
   exact ⟨ze, yI HI0, yw HB, by repeat (first | (with_reducible first | exact HK.out | apply KeepBut.set_ | apply keep_drewN | apply keep_drew | apply keep_alloc) | exact HK.out)⟩
  rw [if_neg c5] at H
  exact absurd H (by simp)
 rw [if_neg c4] at H
 exact absurd H (by simp)

/-! ### spec_l03Named: function 59 -/
def spec_l03Named.f (s0_0 : List Int) (s0_1 : Int) (s0_2 : Int) : Option (ByteArray × Int × Int) := (spec_l01Pick.f s0_0 s0_1 s0_2 (([(⟨#[97]⟩ : ByteArray), (⟨#[98]⟩ : ByteArray), (⟨#[99]⟩ : ByteArray), (⟨#[106, 48]⟩ : ByteArray), (⟨#[106, 49]⟩ : ByteArray), (⟨#[106, 43]⟩ : ByteArray), (⟨#[115, 48]⟩ : ByteArray), (⟨#[115, 43]⟩ : ByteArray)] : List ByteArray))).bind fun bt285 => (some (bt285.1, bt285.2.1, bt285.2.2))
set_option maxHeartbeats 8000000 in
set_option maxRecDepth 100000 in
theorem spec_l03Named.calls (g : Nat) (s0_0 : List Int) (s0_1 : Int) (s0_2 : Int) (r1 : ByteArray) (r2 : Int) (r3 : Int) (w0 w : World) (hI : IsS100 w0 w g s0_0 s0_1 s0_2) (hB : Below w0.heap.size w0 w) (h : spec_l03Named.f s0_0 s0_1 s0_2 = some (r1, r2, r3)) :
  Calls Try.prog 59 #[.pointer (some ⟨g, 0, none⟩)] w fun e w' => e = .returned (.string r1) ∧ IsS100 w0 w' g s0_0 r2 r3 ∧ Below w0.heap.size w0 w' ∧ KeepBut w w' g none := by
 have HI0 := Aside0.mk hI
 have HK := Aside0.mk (KeepBut.refl w g none)
 have HL := Aside0.mk hB.size
 clear hI
 have HW0 := Aside0.mk hB.size
 have HB := Aside0.mk hB
 clear hB
 have H : ((spec_l01Pick.f s0_0 s0_1 s0_2 (([(⟨#[97]⟩ : ByteArray), (⟨#[98]⟩ : ByteArray), (⟨#[99]⟩ : ByteArray), (⟨#[106, 48]⟩ : ByteArray), (⟨#[106, 49]⟩ : ByteArray), (⟨#[106, 43]⟩ : ByteArray), (⟨#[115, 48]⟩ : ByteArray), (⟨#[115, 43]⟩ : ByteArray)] : List ByteArray))).bind fun Aa => (some (Aa.1, Aa.2.1, Aa.2.2))) = some (r1, r2, r3) := h
 clear h
 obtain ⟨Ad, Ac⟩ : ∃ y_ : List ByteArray, y_ = (([(⟨#[97]⟩ : ByteArray), (⟨#[98]⟩ : ByteArray), (⟨#[99]⟩ : ByteArray), (⟨#[106, 48]⟩ : ByteArray), (⟨#[106, 49]⟩ : ByteArray), (⟨#[106, 43]⟩ : ByteArray), (⟨#[115, 48]⟩ : ByteArray), (⟨#[115, 43]⟩ : ByteArray)] : List ByteArray)) := ⟨_, rfl⟩
 replace H : ((spec_l01Pick.f s0_0 s0_1 s0_2 Ad).bind fun Aa => (some (Aa.1, Aa.2.1, Aa.2.2))) = some (r1, r2, r3) := zrw Ac H
 have Ny282 := Aside0.mk Ac
 clear Ac
 replace H := Option.bind_eq_some_iff.mp H
 obtain ⟨⟨Ag, Af, Ae⟩, Ai, H⟩ := H
 replace H : (some (Ag, Af, Ae)) = some (r1, r2, r3) := H
 have A2 := Aside0.mk Ai
 clear Ai
 simp only [Option.some.injEq, Prod.mk.injEq] at H
 obtain ⟨rfl, rfl, rfl⟩ := H
 go_enter Try.func59, Try.ntmps59
 go_wp2_with (first | ((with_reducible refine gate_dst (N := 4) rfl ?_); refine Kd.R_lit Kd.string _ 9 ?hg (N := 4) ?hd (xs := ([(⟨#[97]⟩ : ByteArray), (⟨#[98]⟩ : ByteArray), (⟨#[99]⟩ : ByteArray), (⟨#[106, 48]⟩ : ByteArray), (⟨#[106, 49]⟩ : ByteArray), (⟨#[106, 43]⟩ : ByteArray), (⟨#[115, 48]⟩ : ByteArray), (⟨#[115, 43]⟩ : ByteArray)] : List ByteArray)) (inner := [.string (⟨#[97]⟩ : ByteArray), .string (⟨#[98]⟩ : ByteArray), .string (⟨#[99]⟩ : ByteArray), .string (⟨#[106, 48]⟩ : ByteArray), .string (⟨#[106, 49]⟩ : ByteArray), .string (⟨#[106, 43]⟩ : ByteArray), .string (⟨#[115, 48]⟩ : ByteArray), .string (⟨#[115, 43]⟩ : ByteArray)]) (ok := fun _ => True) (okp := fun _ => True) ?hr ?hp (fun _ hk => hk) trivial (Below.refl _ _) (Nat.le_refl _) (by simp) ?_; (case hd => rfl); (case hg => rfl); (case hr => first | (go_simp; done) | (go_simp; rfl)); (case hp => exact (Reps.one (show Kd.M Kd.string _ _ _ (⟨#[97]⟩ : ByteArray) [.string (⟨#[97]⟩ : ByteArray)] from rfl) (Reps.one (show Kd.M Kd.string _ _ _ (⟨#[98]⟩ : ByteArray) [.string (⟨#[98]⟩ : ByteArray)] from rfl) (Reps.one (show Kd.M Kd.string _ _ _ (⟨#[99]⟩ : ByteArray) [.string (⟨#[99]⟩ : ByteArray)] from rfl) (Reps.one (show Kd.M Kd.string _ _ _ (⟨#[106, 48]⟩ : ByteArray) [.string (⟨#[106, 48]⟩ : ByteArray)] from rfl) (Reps.one (show Kd.M Kd.string _ _ _ (⟨#[106, 49]⟩ : ByteArray) [.string (⟨#[106, 49]⟩ : ByteArray)] from rfl) (Reps.one (show Kd.M Kd.string _ _ _ (⟨#[106, 43]⟩ : ByteArray) [.string (⟨#[106, 43]⟩ : ByteArray)] from rfl) (Reps.one (show Kd.M Kd.string _ _ _ (⟨#[115, 48]⟩ : ByteArray) [.string (⟨#[115, 48]⟩ : ByteArray)] from rfl) (Reps.one (show Kd.M Kd.string _ _ _ (⟨#[115, 43]⟩ : ByteArray) [.string (⟨#[115, 43]⟩ : ByteArray)] from rfl) (Reps.none _ _)))))))))); intro v283 w3 Ah hb hg_ hnew_; clear hg_ hnew_; (first | rw [← Ny282.out] at Ah | (simp only [Int.reduceToNat] at Ah; rw [← Ny282.out] at Ah)); have Ab := Aside0.mk (Kd.R_lower Ah (zKs HK)); replace HK := zKt HK (KeepBut.of_below hb g none); replace HB := ys HB hb; replace HI0 := Aside0.mk (IsS100.below (yI HI0) hb); clear hb Ah; obtain ⟨Al, Ak, Aj⟩ := Kd.R_slice Ab.out; subst Aj) | ((with_reducible refine gate_callee (f := 79) rfl ?_); refine zG (some 5) Try.func79 #[.pointer (some ⟨g, 0, none⟩), .slice Al Ad.length Ak] ?_; (with_reducible refine (spec_l01Pick.calls g s0_0 s0_1 s0_2 _ _ Ad Ag Af Ae w0 _ ?side1 ?side2 ?side3 ?side4 ?side5 A2.out).mono ?_); (case side1 => exact yI HI0); (case side2 => exact yw HB); (case side3 => exact zI (Kd.R_reads' Ab.out).2.2); (case side4 => exact (Kd.R_reads' Ab.out).2.1); (case side5 => exact far_slice (IsS100.own_ne HI0.out Ab.out (by decide))); rintro e w6 ⟨rfl, hi, hb, hk⟩; refine ⟨_, rfl, ?_⟩; replace Ab := Aside0.mk (Kd.R_mono (Kd.R_keep (IsS100.apart (show IsS100 w0 _ g s0_0 s0_1 s0_2 from yI HI0) (zo Ab.out) (by decide)) hk (fun _ h => h.2)) (fun _ h => h.1)); replace HK := zKt HK hk; replace HB := Aside0.mk (hb); replace HI0 := Aside0.mk (hi); clear hi hb hk))
 go_ret
 exact ⟨ze, yI HI0, yw HB, by repeat (first | (with_reducible first | exact HK.out | apply KeepBut.set_ | apply keep_drewN | apply keep_drew | apply keep_alloc) | exact HK.out)⟩

/-! ### spec_l01PickInt: function 83 -/
def spec_l01PickInt.f (s0_0 : List Int) (s0_1 : Int) (s0_2 : Int) (l1 : List Int) : Option (Int × Int × Int) := (spec_l01Below.f s0_0 s0_1 s0_2 (l1.length : Int)).bind fun bt288 => (if 0 ≤ bt288.1 then (if bt288.1 < (l1.length : Int) then (some (rd l1 bt288.1, bt288.2.1, bt288.2.2)) else (none)) else (none))
set_option maxHeartbeats 8000000 in
set_option maxRecDepth 100000 in
theorem spec_l01PickInt.calls (g : Nat) (s0_0 : List Int) (s0_1 : Int) (s0_2 : Int) (A1 : Option Addr) (c1 : Nat) (l1 : List Int) (r1 : Int) (r2 : Int) (r3 : Int) (w0 w : World) (hI : IsS100 w0 w g s0_0 s0_1 s0_2) (hB : Below w0.heap.size w0 w) (hr1 : Kd.C (Kd.int .i64) w A1 l1.length l1) (hc1 : l1.length ≤ c1) (hf1 : ∀ ad, A1 = some ad → 0 < l1.length → ad.block ≠ g) (h : spec_l01PickInt.f s0_0 s0_1 s0_2 l1 = some (r1, r2, r3)) :
  Calls Try.prog 83 #[.pointer (some ⟨g, 0, none⟩), .slice A1 l1.length c1] w fun e w' => e = .returned (.int .i64 r1) ∧ IsS100 w0 w' g s0_0 r2 r3 ∧ Below w0.heap.size w0 w' ∧ KeepBut w w' g none := by
 have HR1 := Aside0.mk hr1
 have HC1 := Aside0.mk hc1
 clear hr1 hc1
 have HI0 := Aside0.mk hI
 have HK := Aside0.mk (KeepBut.refl w g none)
 have HL := Aside0.mk hB.size
 clear hI
 have HW0 := Aside0.mk hB.size
 have HB := Aside0.mk hB
 clear hB
 have H : ((spec_l01Below.f s0_0 s0_1 s0_2 (l1.length : Int)).bind fun Ab => (if 0 ≤ Ab.1 then (if Ab.1 < (l1.length : Int) then (some (rd l1 Ab.1, Ab.2.1, Ab.2.2)) else (none)) else (none))) = some (r1, r2, r3) := h
 clear h
 replace H := Option.bind_eq_some_iff.mp H
 obtain ⟨⟨Aa, Ag, Af⟩, Aj, H⟩ := H
 replace H : (if 0 ≤ Aa then (if Aa < (l1.length : Int) then (some (rd l1 Aa, Ag, Af)) else (none)) else (none)) = some (r1, r2, r3) := H
 have A3 := Aside0.mk Aj
 clear Aj
 by_cases c4 : 0 ≤ Aa
 ·rw [if_pos c4] at H
  have c4b0 := decide_eq_true c4
  clear c4
  by_cases c5 : Aa < (l1.length : Int)
  ·rw [if_pos c5] at H
   have c5b0 := decide_eq_true c5
   clear c5
   simp only [Option.some.injEq, Prod.mk.injEq] at H
   obtain ⟨rfl, rfl, rfl⟩ := H
   go_enter Try.func83, Try.ntmps83
   go_wp2_with (first | ((with_reducible refine gate_callee (f := 56) rfl ?_); refine zG (some 9) Try.func56 #[.pointer (some ⟨g, 0, none⟩), .int .i64 (l1.length : Int)] ?_; (with_reducible refine (spec_l01Below.calls g s0_0 s0_1 s0_2 (l1.length : Int) Aa Ag Af w0 _ ?side1 ?side2 A3.out).mono ?_); (case side1 => exact yI HI0); (case side2 => exact yw HB); rintro e w6 ⟨rfl, hi, hb, hk⟩; refine ⟨_, rfl, ?_⟩; replace HK := zKt HK hk; replace HB := Aside0.mk (hb); replace HI0 := Aside0.mk (hi); clear hi hb hk; have Ae : 0 ≤ (Aa : Int) := of_decide_eq_true za; have Ad : Aa < (l1.length : Int) := of_decide_eq_true za; obtain ⟨Ah, Ai, Ac⟩ := Kd.at_int HR1.out Aa Ae Ad; cases Ai; replace Ac := keep_cell HK.out Ac (by first | (rw [add_block]; exact hf1 _ rfl (by omega)) | exact hf1 _ rfl (by omega) | exact hf1 Ah rfl (by omega)); replace Ae := eq_true Ae; replace Ad := eq_true Ad))
   go_ret
   exact ⟨ze, yI HI0, yw HB, by repeat (first | (with_reducible first | exact HK.out | apply KeepBut.set_ | apply keep_drewN | apply keep_drew | apply keep_alloc) | exact HK.out)⟩
  rw [if_neg c5] at H
  exact absurd H (by simp)
 rw [if_neg c4] at H
 exact absurd H (by simp)

/-! ### spec_l01Figure: function 90 -/
def spec_l01Figure.f (a0 : Int) : Option (Int) := if a0 < 10 then (some ((wrap64 (48 + a0)) % 256)) else (some ((wrap64 ((wrap64 (97 + a0)) - 10)) % 256))
set_option maxHeartbeats 8000000 in
set_option maxRecDepth 100000 in
theorem spec_l01Figure.calls (a0 : Int) (r : Int) (w : World) (h : spec_l01Figure.f a0 = some r) :
  Calls Try.prog 90 #[.int .i64 a0] w fun e w' => e = .returned (.int .u8 r) ∧ Drawn0 w w' := by
 have H : (if a0 < 10 then (some ((wrap64 (48 + a0)) % 256)) else (some ((wrap64 ((wrap64 (97 + a0)) - 10)) % 256))) = some r := h
 clear h
 by_cases c2 : a0 < 10
 ·rw [if_pos c2] at H
  have Aa := decide_eq_true c2
  clear c2
  obtain rfl := Option.some.inj H
  go_enter Try.func90, Try.ntmps90
  go_wp2
  go_ret
  exact ⟨by first | rfl | (simp; done) | (simp [*]; done), by repeat (first | exact Drawn0.refl _ | apply Drawn0.step)⟩
 rw [if_neg c2] at H
 have Aa := decide_eq_false c2
 clear c2
 obtain rfl := Option.some.inj H
 go_enter Try.func90, Try.ntmps90
 go_wp2
 go_ret
 exact ⟨by first | rfl | (simp; done) | (simp [*]; done), by repeat (first | exact Drawn0.refl _ | apply Drawn0.step)⟩

end Go.Proofs.Ytdiecogmaiglaaa.PFnActs
