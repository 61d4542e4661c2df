import Derived.Test.YtdiecogmaiglaaaQFnExactCutActsx0
import Derived.Test.YtdiecogmaiglaaaQFnExactCutActsx7
import Derived.Test.YtdiecogmaiglaaaQFnExactCutActsx9
namespace Go.Proofs.Ytdiecogmaiglaaa.PFnExactCutActs
open Go.RowKit Go.Proofs.YtdiecogmaiglaaaW.PrintWords Go.Proofs.YtdiecogmaiglaaaW.PrintLast Go.Proofs.YtdiecogmaiglaaaW.PrintMore
attribute [local go_sem] max2_int min2_int max_two min_two max_three min_three max_four min_four   -- for this text's walks alone
set_option linter.unusedVariables false
set_option linter.unusedSimpArgs false

/-! ### impl_DoActs: function 41 -/
def impl_DoActs.l0 : Nat → List (S55) → List (S55) → Int → Int → List (S45) → Option ((List (S45)) × Int)
 | 0, _, _, _, _, _ => none
 | k + 1, x1, x13, x14, x15, x253000 => if x15 < x14 then (if 0 ≤ x15 then (if x15 < (x13.length : Int) then ((impl_DoAct.f k x253000 ((rd_T55 x13 x15).f0) ((rd_T55 x13 x15).f1) ((rd_T55 x13 x15).f2) ((rd_T55 x13 x15).f3)).bind fun bt255 => (if bt255.2 = true then (impl_DoActs.l0 k x1 x13 x14 (wrap64 (x15 + 1)) bt255.1) else (some (x253000, x15)))) else (none)) else (none)) else (some (x253000, (x1.length : Int)))
def impl_DoActs.f (k : Nat) (l0_0 : List (S45)) (l1 : List (S55)) : Option ((List (S45)) × Int) := (impl_copyDisk.f l0_0).bind fun t249 => (impl_DoActs.l0 k l1 l1 (l1.length : Int) 0 t249)
theorem impl_DoActs.mono_l : ∀ k, (∀ y0 y1 y2 y3 y4, LeO (impl_DoActs.l0 k y0 y1 y2 y3 y4) (impl_DoActs.l0 (k + 1) y0 y1 y2 y3 y4))
 | 0 => fun _ _ _ _ _ r h => by simp [impl_DoActs.l0] at h
 | k + 1 => by
  have ih0 := impl_DoActs.mono_l k
  intro y0 y1 y2 y3 y4
  unfold impl_DoActs.l0
  repeat' first
  | (with_reducible exact ih0 _ _ _ _ _)
  | (with_reducible exact impl_DoAct.mono _ _ _ _ _ _)
  | (with_reducible exact LeO.refl _)
  | (with_reducible exact LeO.none _)
  | (with_reducible refine LeO.ite ?_ ?_)
  | (with_reducible refine LeO.bind ?_ (fun _ => ?_))
  | exact ih0 _ _ _ _ _
  | exact impl_DoAct.mono _ _ _ _ _ _
  | exact LeO.none _
  | refine LeO.ite ?_ ?_
  | refine LeO.bind ?_ (fun _ => ?_)
theorem impl_DoActs.mono : ∀ a0 a1 k, LeO (impl_DoActs.f k a0 a1) (impl_DoActs.f (k + 1) a0 a1) := by
 intro a0 a1 k
 have ih0 := impl_DoActs.mono_l k
 unfold impl_DoActs.f
 repeat' first
   | (with_reducible exact ih0 _ _ _ _ _)
   | (with_reducible exact impl_DoAct.mono _ _ _ _ _ _)
   | (with_reducible exact LeO.refl _)
   | (with_reducible exact LeO.none _)
   | (with_reducible refine LeO.ite ?_ ?_)
   | (with_reducible refine LeO.bind ?_ (fun _ => ?_))
   | exact ih0 _ _ _ _ _
   | exact impl_DoAct.mono _ _ _ _ _ _
   | exact LeO.none _
   | refine LeO.ite ?_ ?_
   | refine LeO.bind ?_ (fun _ => ?_)
set_option maxHeartbeats 8000000 in
set_option maxRecDepth 100000 in
theorem impl_DoActs.calls (k : Nat) (A0_0 : Option Addr) (c0_0 : Nat) (l0_0 : List (S45)) (A1 : Option Addr) (c1 : Nat) (l1 : List (S55)) (r1 : List (S45)) (r2 : Int) (w : World) (hr0_0 : Kd.C k45 w A0_0 l0_0.length l0_0) (hc0_0 : l0_0.length ≤ c0_0) (hr1 : Kd.C k55 w A1 l1.length l1) (hc1 : l1.length ≤ c1) (h : impl_DoActs.f k l0_0 l1 = some (r1, r2)) :
  Calls Try.prog 41 #[.agg #[.slice A0_0 l0_0.length c0_0], .slice A1 l1.length c1] w fun e w' => ∃ v0_ : Value, e = .returned (.tuple #[.agg #[v0_], .int .i64 r2]) ∧ Kd.R k45 45 w' w.heap.size (fun _ => True) v0_ r1 ∧ Below w.heap.size w w' := by
 have hu29 := Try.underlying29
 have hu55 := Try.underlying55
 have HR0_0 := Aside0.mk hr0_0
 have Ch := Aside0.mk hc0_0
 clear hr0_0 hc0_0
 have HR1 := Aside0.mk hr1
 have HC1 := Aside0.mk hc1
 clear hr1 hc1
 have HB := Aside0.mk (Below.refl w.heap.size w)
 have H : ((impl_copyDisk.f l0_0).bind fun Br => (impl_DoActs.l0 k l1 l1 (l1.length : Int) 0 Br)) = some (r1, r2) := h
 clear h
 replace H := Option.bind_eq_some_iff.mp H
 obtain ⟨Br, C5, H⟩ := H
 have A3 := Aside0.mk C5
 clear C5
 have H' := Aside0.mk H
 clear H
 go_enter Try.func41, Try.ntmps41
 go_wp2_with (first | ((with_reducible refine gate_dst (N := 2) rfl ?_); refine zx (N := 2) (cs := #[.slice A0_0 l0_0.length c0_0]) (t := 29) ?_; intro Cb hg w4 hbox hb; have Ae := Aside0.mk (hbox); have GW247 := zg HB hg; have GE247 := zg HB hg; replace HB := zs HB hb; clear hb hbox hg) | ((with_reducible refine gate_dst (N := 4) rfl ?_); refine zx (N := 4) (cs := #[.slice none 0 0]) (t := 29) ?_; intro Bm hg w5 hbox hb; have Ac := Aside0.mk (hbox); have GW248 := zg HB hg; have GE248 := zg HB hg; replace HB := zs HB hb; have Bi := zl Ae hg; have Bf := zr Ae hg; replace Ae := zb Ae hb; clear hb hbox hg; have hnb6 := Bi.out; have hnc6 := Bf.out; obtain ⟨Cu, Ct⟩ := zc1 Ae) | ((with_reducible refine gate_callee (f := 61) rfl ?_); refine zG (some 12) Try.func61 #[.agg #[.slice A0_0 l0_0.length c0_0]] ?_; (with_reducible refine (impl_copyDisk.calls _ _ l0_0 Br _ ?side1 ?side2 A3.out).mono ?_); (case side1 => exact zI (Kd.C_below HR0_0.out HB.out)); (case side2 => exact Ch.out); rintro e w8 ⟨v250, rfl, Bu, hb⟩; refine ⟨_, rfl, ?_⟩; have Bq := Aside0.mk (Kd.R_lower Bu (below_size (zw HB))); replace Ae := zb Ae hb; replace Ac := zb Ac hb; replace HB := zs HB hb; clear Bu hb) | ((with_reducible refine gate_dst (N := 6) rfl ?_); refine zx (N := 6) (cs := #[.slice none 0 0]) (t := 29) ?_; intro Bt hg w9 hbox hb; replace Bq := zy Bq hb; have Af := Aside0.mk (hbox); have GW252 := zg HB hg; have GE252 := zg HB hg; replace HB := zs HB hb; have Al := zl Ae hg; have Aj := zr Ae hg; replace Ae := zb Ae hb; have Ak := zl Ac hg; have Ai := zr Ac hg; replace Ac := zb Ac hb; clear hb hbox hg; obtain ⟨Cn, Ce, C0⟩ := Kd.R_slice Bq.out; subst C0; have hnb11 := Aj.out; have hnc11 := Al.out; have hnb12 := Ai.out; have hnc12 := Ak.out; obtain ⟨Ca, B8⟩ := zc1 Af))
 go_loopg [15] k (fun kq C7 w' => ∃ (Aa : Int) (Ad : List (S45)) (Bk : Value), C7 = .int .i64 Aa ∧ Aside0 (impl_DoActs.l0 kq l1 l1 (l1.length : Int) Aa Ad = some (r1, r2)) ∧ Aside0 (kq ≤ k) ∧ Aside0 (Kd.R k45 45 w' w.heap.size (fun _ => True) Bk Ad) ∧ Aside0 (w'.heap[Cb]? = some (.cells #[(.slice A0_0 l0_0.length c0_0)] 29 (0, 0))) ∧ Aside0 (w'.heap[Bm]? = some (.cells #[(.slice none 0 0)] 29 (0, 0))) ∧ Aside0 (w'.heap[Bt]? = some (.cells #[Bk] 29 (0, 0))) ∧ Aside0 (Below w.heap.size w w'))
 case atStart => exact ⟨(0), (Br), (.slice Cn Br.length Ce), zf, H', ⟨Nat.le_refl _⟩, ⟨zo (Kd.R_mono (Kd.R_far (p := ⟨Bt, 0, none⟩) (Kd.R_types Bq.out Af.out (by decide)) (fun _ hk => hk.2) (.slice Cn Br.length Ce)) (fun _ hk => trivial))⟩, ⟨zkf Ae⟩, ⟨zkf Ac⟩, ⟨zj Af⟩, ⟨zw HB⟩⟩
 case round =>
  clear H'
  try clear c1
  try clear p2
  try clear c4
  try clear c6
  try clear c11
  try clear c12
  try clear Ca
  try clear Cu
  try clear B8
  try clear Ct
  obtain ⟨Aa, Ad, Bk, rfl, HA, C4, Ab, Ae, Ac, Af, HB⟩ := hrel
  cases gk with
  | zero => exact absurd HA.out (by simp [impl_DoActs.l0])
  | succ k1 =>
   have H := HA.out
   clear HA
   simp only [impl_DoActs.l0] at H
   by_cases B1 : Aa < (l1.length : Int)
   ·rw [if_pos B1] at H
    have Cf := decide_eq_true B1
    clear B1
    by_cases Cr : 0 ≤ Aa
    ·rw [if_pos Cr] at H
     have c15b0 := decide_eq_true Cr
     clear Cr
     by_cases Cq : Aa < (l1.length : Int)
     ·rw [if_pos Cq] at H
      have c16b0 := decide_eq_true Cq
      clear Cq
      replace H := Option.bind_eq_some_iff.mp H
      obtain ⟨⟨Bl, B2⟩, Co, H⟩ := H
      replace H : (if B2 = true then (impl_DoActs.l0 k1 l1 l1 (l1.length : Int) (wrap64 (Aa + 1)) Bl) else (some (Ad, Aa))) = some (r1, r2) := H
      have C6 := Aside0.mk Co
      clear Co
      by_cases Cp : B2 = true
      ·subst Cp
       rw [if_pos rfl] at H
       have H' := Aside0.mk H
       clear H
       have Bp : 0 ≤ (Aa : Int) := of_decide_eq_true za
       have Bo : Aa < (l1.length : Int) := of_decide_eq_true za
       obtain ⟨Cg, Bw, Aq, Ap, Ao, Am⟩ := at_T55 HR1.out Aa Bp Bo
       cases Bw
       replace Aq := zU HB.out Aq
       replace Ap := zU HB.out Ap
       replace Ao := zU HB.out Ao
       replace Am := zU HB.out Am
       replace Bp := eq_true Bp
       replace Bo := eq_true Bo
       go_wp2_with (first | ((with_reducible refine gate_dst (N := 8) rfl ?_); refine zx (N := 8) (cs := #[.int .i64 0, .string (⟨#[]⟩ : ByteArray), .string (⟨#[]⟩ : ByteArray), .string (⟨#[]⟩ : ByteArray)]) (t := 55) ?_; intro Ag hg w19 hbox hb; replace Ab := zy Ab hb; have Ah := Aside0.mk (hbox); have Cj := zg HB hg; have Cl := zg HB hg; replace HB := zs HB hb; have Bh := zl Ae hg; have Ba := zr Ae hg; replace Ae := zb Ae hb; have Be := zl Ac hg; have Az := zr Ac hg; replace Ac := zb Ac hb; have Bc := zl Af hg; have Ay := zr Af hg; replace Af := zb Af hb; clear hb hbox hg; have hnb20 := Ba.out; have hnc20 := Bh.out; have hnb21 := Az.out; have hnc21 := Be.out; have hnb22 := Ay.out; have hnc22 := Bc.out; obtain ⟨_, _, _, _, _, _, _, _⟩ := zc4 Ah; have hnb24 := Aj.out; have hnc24 := Al.out; have hnb25 := Ai.out; have hnc25 := Ak.out; obtain ⟨_, _⟩ := zc1 Af; obtain ⟨C3, Cd, Cz⟩ := Kd.R_slice Ab.out; subst Cz) | ((with_reducible refine gate_callee (f := 37) rfl ?_); refine zG (some 23) Try.func37 #[.agg #[.slice C3 Ad.length Cd], .agg #[.int .i64 ((rd_T55 l1 Aa).f0), .string ((rd_T55 l1 Aa).f1), .string ((rd_T55 l1 Aa).f2), .string ((rd_T55 l1 Aa).f3)]] ?_; (with_reducible refine (impl_DoAct.calls k1 _ _ Ad ((rd_T55 l1 Aa).f0) ((rd_T55 l1 Aa).f1) ((rd_T55 l1 Aa).f2) ((rd_T55 l1 Aa).f3) Bl true _ ?side1 ?side2 C6.out).mono ?_); (case side1 => refine (Kd.R_reads' (e := 45) (base := w.heap.size) (ok := fun k_ => True) (n := Ad.length) (c := Cd) ?_).2.2; exact (zo ((Kd.R_mono (Kd.R_far (p := ⟨Ag, 3, none⟩) (Kd.R_far (p := ⟨Ag, 2, none⟩) (Kd.R_far (p := ⟨Ag, 1, none⟩) (Kd.R_far (p := ⟨Ag, 0, none⟩) (Kd.R_types Ab.out Ah.out (by decide)) (fun _ hk => hk.2) (.int .i64 ((rd_T55 l1 Aa).f0))) (fun _ hk => hk.2) (.string ((rd_T55 l1 Aa).f1))) (fun _ hk => hk.2) (.string ((rd_T55 l1 Aa).f2))) (fun _ hk => hk.2) (.string ((rd_T55 l1 Aa).f3))) (fun _ h_ => h_.1))))); (case side2 => exact (Kd.R_reads' Ab.out).2.1); rintro e w28 ⟨Cs, rfl, Bu, hb⟩; refine ⟨_, rfl, ?_⟩; have Bj := Aside0.mk (Kd.R_lower (Kd.R_new' Bu (Kd.R_lt (zo ((Kd.R_mono (Kd.R_far (p := ⟨Ag, 3, none⟩) (Kd.R_far (p := ⟨Ag, 2, none⟩) (Kd.R_far (p := ⟨Ag, 1, none⟩) (Kd.R_far (p := ⟨Ag, 0, none⟩) (Kd.R_types Ab.out Ah.out (by decide)) (fun _ hk => hk.2) (.int .i64 ((rd_T55 l1 Aa).f0))) (fun _ hk => hk.2) (.string ((rd_T55 l1 Aa).f1))) (fun _ hk => hk.2) (.string ((rd_T55 l1 Aa).f2))) (fun _ hk => hk.2) (.string ((rd_T55 l1 Aa).f3))) (fun _ h_ => h_.1)))))) (below_size (zw HB))); replace Ab := Aside0.mk (Kd.R_elder' (zo ((Kd.R_mono (Kd.R_far (p := ⟨Ag, 3, none⟩) (Kd.R_far (p := ⟨Ag, 2, none⟩) (Kd.R_far (p := ⟨Ag, 1, none⟩) (Kd.R_far (p := ⟨Ag, 0, none⟩) (Kd.R_types Ab.out Ah.out (by decide)) (fun _ hk => hk.2) (.int .i64 ((rd_T55 l1 Aa).f0))) (fun _ hk => hk.2) (.string ((rd_T55 l1 Aa).f1))) (fun _ hk => hk.2) (.string ((rd_T55 l1 Aa).f2))) (fun _ hk => hk.2) (.string ((rd_T55 l1 Aa).f3))) (fun _ h_ => h_.1)))) (Kd.R_base Bu) hb); replace Ae := zbf Ae hb; replace Ac := zbf Ac hb; replace Af := zbf Af hb; replace Ah := Aside0.mk (blk_below (g := Ag) (o := .cells #[.int .i64 ((rd_T55 l1 Aa).f0), .string ((rd_T55 l1 Aa).f1), .string ((rd_T55 l1 Aa).f2), .string ((rd_T55 l1 Aa).f3)] 55 (0, 0)) (zj Ah) hb); replace HB := zs HB hb; clear Bu hb) | ((with_reducible refine gate_dst (N := 9) rfl ?_); refine zx (N := 9) (cs := #[.slice none 0 0]) (t := 29) ?_; intro Bs hg w29 hbox hb; replace Ab := zy Ab hb; replace Bj := zy Bj hb; have Bn := Aside0.mk (hbox); have Ci := zg HB hg; have Ck := zg HB hg; replace HB := zs HB hb; have Bg := zl Ae hg; have Aw := zr Ae hg; replace Ae := zb Ae hb; have Bd := zl Ac hg; have Au := zr Ac hg; replace Ac := zb Ac hb; have Bb := zl Af hg; have As := zr Af hg; replace Af := zb Af hb; have Ax := zl Ah hg; have Ar := zr Ah hg; replace Ah := zb Ah hb; clear hb hbox hg; obtain ⟨B0, Bx, Cy⟩ := Kd.R_slice Bj.out; subst Cy; have hnb31 := Aw.out; have hnc31 := Bg.out; have hnb32 := Au.out; have hnc32 := Bd.out; have hnb33 := As.out; have hnc33 := Bb.out; have hnb34 := Ar.out; have hnc34 := Ax.out; obtain ⟨_, _⟩ := zc1 Bn; obtain ⟨_, _⟩ := zc1 Af))
       go_roundg k1
       case measure => have := C4.out; omega
       case rel => exact ⟨(wrap64 (Aa + 1)), (Bl), (.slice B0 Bl.length Bx), zf, H', ⟨by have := C4.out; omega⟩, ⟨zo (Kd.R_mono (Kd.R_far (p := ⟨Bt, 0, none⟩) (Kd.R_far (p := ⟨Bs, 0, none⟩) (Kd.R_types (Kd.R_types Bj.out Bn.out (by decide)) Af.out (by decide)) (fun _ hk => hk.1.2) (.slice B0 Bl.length Bx)) (fun _ hk => hk.2) (.slice B0 Bl.length Bx)) (fun _ hk => trivial))⟩, ⟨zkf Ae⟩, ⟨zkf Ac⟩, ⟨zj Af⟩, ⟨zw HB⟩⟩
      replace Cp := Bool.eq_false_iff.mpr Cp
      subst Cp
      rw [if_neg (show ¬ (false = true) by decide)] at H
      simp only [Option.some.injEq, Prod.mk.injEq] at H
      obtain ⟨rfl, rfl⟩ := H
      have Bp : 0 ≤ (Aa : Int) := of_decide_eq_true za
      have Bo : Aa < (l1.length : Int) := of_decide_eq_true za
      obtain ⟨Cg, Bw, Aq, Ap, Ao, Am⟩ := at_T55 HR1.out Aa Bp Bo
      cases Bw
      replace Aq := zU HB.out Aq
      replace Ap := zU HB.out Ap
      replace Ao := zU HB.out Ao
      replace Am := zU HB.out Am
      replace Bp := eq_true Bp
      replace Bo := eq_true Bo
      go_wp2_with (first | ((with_reducible refine gate_dst (N := 8) rfl ?_); refine zx (N := 8) (cs := #[.int .i64 0, .string (⟨#[]⟩ : ByteArray), .string (⟨#[]⟩ : ByteArray), .string (⟨#[]⟩ : ByteArray)]) (t := 55) ?_; intro Ag hg w37 hbox hb; replace Ab := zy Ab hb; have Ah := Aside0.mk (hbox); have Cj := zg HB hg; have Cl := zg HB hg; replace HB := zs HB hb; have Bh := zl Ae hg; have Ba := zr Ae hg; replace Ae := zb Ae hb; have Be := zl Ac hg; have Az := zr Ac hg; replace Ac := zb Ac hb; have Bc := zl Af hg; have Ay := zr Af hg; replace Af := zb Af hb; clear hb hbox hg; have hnb38 := Ba.out; have hnc38 := Bh.out; have hnb39 := Az.out; have hnc39 := Be.out; have hnb40 := Ay.out; have hnc40 := Bc.out; obtain ⟨_, _, _, _, _, _, _, _⟩ := zc4 Ah; have hnb42 := Aj.out; have hnc42 := Al.out; have hnb43 := Ai.out; have hnc43 := Ak.out; obtain ⟨_, _⟩ := zc1 Af; obtain ⟨Bz, Bv, Cx⟩ := Kd.R_slice Ab.out; subst Cx) | ((with_reducible refine gate_callee (f := 37) rfl ?_); refine zG (some 23) Try.func37 #[.agg #[.slice Bz Ad.length Bv], .agg #[.int .i64 ((rd_T55 l1 Aa).f0), .string ((rd_T55 l1 Aa).f1), .string ((rd_T55 l1 Aa).f2), .string ((rd_T55 l1 Aa).f3)]] ?_; (with_reducible refine (impl_DoAct.calls k1 _ _ Ad ((rd_T55 l1 Aa).f0) ((rd_T55 l1 Aa).f1) ((rd_T55 l1 Aa).f2) ((rd_T55 l1 Aa).f3) Bl false _ ?side1 ?side2 C6.out).mono ?_); (case side1 => refine (Kd.R_reads' (e := 45) (base := w.heap.size) (ok := fun k_ => True) (n := Ad.length) (c := Bv) ?_).2.2; exact (zo ((Kd.R_mono (Kd.R_far (p := ⟨Ag, 3, none⟩) (Kd.R_far (p := ⟨Ag, 2, none⟩) (Kd.R_far (p := ⟨Ag, 1, none⟩) (Kd.R_far (p := ⟨Ag, 0, none⟩) (Kd.R_types Ab.out Ah.out (by decide)) (fun _ hk => hk.2) (.int .i64 ((rd_T55 l1 Aa).f0))) (fun _ hk => hk.2) (.string ((rd_T55 l1 Aa).f1))) (fun _ hk => hk.2) (.string ((rd_T55 l1 Aa).f2))) (fun _ hk => hk.2) (.string ((rd_T55 l1 Aa).f3))) (fun _ h_ => h_.1))))); (case side2 => exact (Kd.R_reads' Ab.out).2.1); rintro e w46 ⟨Cs, rfl, Bu, hb⟩; refine ⟨_, rfl, ?_⟩; have Bj := Aside0.mk (Kd.R_lower (Kd.R_new' Bu (Kd.R_lt (zo ((Kd.R_mono (Kd.R_far (p := ⟨Ag, 3, none⟩) (Kd.R_far (p := ⟨Ag, 2, none⟩) (Kd.R_far (p := ⟨Ag, 1, none⟩) (Kd.R_far (p := ⟨Ag, 0, none⟩) (Kd.R_types Ab.out Ah.out (by decide)) (fun _ hk => hk.2) (.int .i64 ((rd_T55 l1 Aa).f0))) (fun _ hk => hk.2) (.string ((rd_T55 l1 Aa).f1))) (fun _ hk => hk.2) (.string ((rd_T55 l1 Aa).f2))) (fun _ hk => hk.2) (.string ((rd_T55 l1 Aa).f3))) (fun _ h_ => h_.1)))))) (below_size (zw HB))); replace Ab := Aside0.mk (Kd.R_elder' (zo ((Kd.R_mono (Kd.R_far (p := ⟨Ag, 3, none⟩) (Kd.R_far (p := ⟨Ag, 2, none⟩) (Kd.R_far (p := ⟨Ag, 1, none⟩) (Kd.R_far (p := ⟨Ag, 0, none⟩) (Kd.R_types Ab.out Ah.out (by decide)) (fun _ hk => hk.2) (.int .i64 ((rd_T55 l1 Aa).f0))) (fun _ hk => hk.2) (.string ((rd_T55 l1 Aa).f1))) (fun _ hk => hk.2) (.string ((rd_T55 l1 Aa).f2))) (fun _ hk => hk.2) (.string ((rd_T55 l1 Aa).f3))) (fun _ h_ => h_.1)))) (Kd.R_base Bu) hb); replace Ae := zbf Ae hb; replace Ac := zbf Ac hb; replace Af := zbf Af hb; replace Ah := Aside0.mk (blk_below (g := Ag) (o := .cells #[.int .i64 ((rd_T55 l1 Aa).f0), .string ((rd_T55 l1 Aa).f1), .string ((rd_T55 l1 Aa).f2), .string ((rd_T55 l1 Aa).f3)] 55 (0, 0)) (zj Ah) hb); replace HB := zs HB hb; clear Bu hb) | ((with_reducible refine gate_dst (N := 9) rfl ?_); refine zx (N := 9) (cs := #[.slice none 0 0]) (t := 29) ?_; intro Bs hg w47 hbox hb; replace Ab := zy Ab hb; replace Bj := zy Bj hb; have Bn := Aside0.mk (hbox); have Ci := zg HB hg; have Ck := zg HB hg; replace HB := zs HB hb; have Bg := zl Ae hg; have Aw := zr Ae hg; replace Ae := zb Ae hb; have Bd := zl Ac hg; have Au := zr Ac hg; replace Ac := zb Ac hb; have Bb := zl Af hg; have As := zr Af hg; replace Af := zb Af hb; have Ax := zl Ah hg; have Ar := zr Ah hg; replace Ah := zb Ah hb; clear hb hbox hg; obtain ⟨C2, C1, Cw⟩ := Kd.R_slice Bj.out; subst Cw; have hnb49 := Aw.out; have hnc49 := Bg.out; have hnb50 := Au.out; have hnc50 := Bd.out; have hnb51 := As.out; have hnc51 := Bb.out; have hnb52 := Ar.out; have hnc52 := Ax.out; obtain ⟨_, _⟩ := zc1 Bn; obtain ⟨_, _⟩ := zc1 Af; have hnb55 := Bf.out; have hnc55 := Bi.out; obtain ⟨_, _⟩ := zc1 Ac))
      refine bodyPost_ret (results_ct rfl _ _ Bm 29 #[.slice Bz Ad.length Bv] (0, 0) _ rfl (zj Ac) Try.underlying29 rfl (by kernel_rfl)) rfl ?_
      exact ⟨_, ze, zo (Kd.R_mono (Kd.R_far (p := ⟨Bm, 0, none⟩) (Kd.R_far (p := ⟨Bs, 0, none⟩) (Kd.R_types (Kd.R_types Ab.out Bn.out (by decide)) Ac.out (by decide)) (fun _ hk => hk.1.2) (.slice C2 Bl.length C1)) (fun _ hk => hk.2) (.slice Bz Ad.length Bv)) (fun _ hk => trivial)), zw HB⟩
     rw [if_neg Cq] at H
     exact absurd H (by simp)
    rw [if_neg Cr] at H
    exact absurd H (by simp)
   rw [if_neg B1] at H
   have Cf := decide_eq_false B1
   clear B1
   simp only [Option.some.injEq, Prod.mk.injEq] at H
   obtain ⟨rfl, rfl⟩ := H
   have hnb57 := Aj.out
   have hnc57 := Al.out
   have hnb58 := Ai.out
   have hnc58 := Ak.out
   obtain ⟨_, _⟩ := zc1 Af
   obtain ⟨Cm, Cc, Cv⟩ := Kd.R_slice Ab.out
   subst Cv
   have hnb61 := Bf.out
   have hnc61 := Bi.out
   obtain ⟨_, _⟩ := zc1 Ac
   go_wp2
   refine bodyPost_ret (results_ct rfl _ _ Bm 29 #[.slice Cm Ad.length Cc] (0, 0) _ rfl (zj Ac) Try.underlying29 rfl (by kernel_rfl)) rfl ?_
   exact ⟨_, ze, zo (Kd.R_mono (Kd.R_far (p := ⟨Bm, 0, none⟩) (Kd.R_types Ab.out Ac.out (by decide)) (fun _ hk => hk.2) (.slice Cm Ad.length Cc)) (fun _ hk => trivial)), zw HB⟩

end Go.Proofs.Ytdiecogmaiglaaa.PFnExactCutActs
