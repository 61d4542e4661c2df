import Derived.Test.YtdiecogmaiglaaaQFnActsx0
namespace Go.Proofs.Ytdiecogmaiglaaa.PFnActs
open Go.RowKit Go.Proofs.YtdiecogmaiglaaaW.PrintWords Go.Proofs.YtdiecogmaiglaaaW.PrintLast Go.Proofs.YtdiecogmaiglaaaW.PrintMore
attribute [local go_sem] max2_int min2_int max_two min_two max_three min_three max_four min_four   -- for this text's walks alone
set_option linter.unusedVariables false
set_option linter.unusedSimpArgs false

/-! ### spec_l03Without: function 64 -/
def spec_l03Without.l0 : Nat → ByteArray → Int → List (S45) → List (S45) → Option ((List (S45)))
 | 0, _, _, _, _ => none
 | k + 1, x1, x6, x186000, x188000 => if x6 < (x186000.length : Int) then (if 0 ≤ x6 then (if ((rd_T45 x186000 x6).f0).toList = x1.toList then (spec_l03Without.l0 k x1 (wrap64 (x6 + 1)) x186000 x188000) else (if x188000.length < 3518437208883 then (spec_l03Without.l0 k x1 (wrap64 (x6 + 1)) x186000 (x188000 ++ [(⟨(rd_T45 x186000 x6).f0, (rd_T45 x186000 x6).f1, (rd_T45 x186000 x6).f2⟩ : S45)])) else (none))) else (none)) else (some x188000)
def spec_l03Without.f (k : Nat) (l0_0 : List (S45)) (a1 : ByteArray) : Option ((List (S45))) := spec_l03Without.l0 k a1 0 l0_0 ([] : List (S45))
theorem spec_l03Without.mono_l : ∀ k, (∀ y0 y1 y2 y3, LeO (spec_l03Without.l0 k y0 y1 y2 y3) (spec_l03Without.l0 (k + 1) y0 y1 y2 y3))
 | 0 => fun _ _ _ _ r h => by simp [spec_l03Without.l0] at h
 | k + 1 => by
  have ih0 := spec_l03Without.mono_l k
  intro y0 y1 y2 y3
  unfold spec_l03Without.l0
  repeat' first
  | (with_reducible exact ih0 _ _ _ _)
  | (with_reducible exact LeO.refl _)
  | (with_reducible exact LeO.none _)
  | (with_reducible refine LeO.ite ?_ ?_)
  | (with_reducible refine LeO.bind ?_ (fun _ => ?_))
  | exact ih0 _ _ _ _
  | exact LeO.none _
  | refine LeO.ite ?_ ?_
  | refine LeO.bind ?_ (fun _ => ?_)
theorem spec_l03Without.mono : ∀ a0 a1 k, LeO (spec_l03Without.f k a0 a1) (spec_l03Without.f (k + 1) a0 a1) := by
 intro a0 a1 k
 have ih0 := spec_l03Without.mono_l k
 unfold spec_l03Without.f
 repeat' first
   | (with_reducible exact ih0 _ _ _ _)
   | (with_reducible exact LeO.refl _)
   | (with_reducible exact LeO.none _)
   | (with_reducible refine LeO.ite ?_ ?_)
   | (with_reducible refine LeO.bind ?_ (fun _ => ?_))
   | exact ih0 _ _ _ _
   | exact LeO.none _
   | refine LeO.ite ?_ ?_
   | refine LeO.bind ?_ (fun _ => ?_)
def spec_l03Without.T6 : Bool × List (List Nat × List Nat) := (true, [([], []), ([0], [0]), ([], []), ([2], [2]), ([], []), ([3, 4], [3, 4]), ([5], [5]), ([6], [6]), ([1, 7], [1, 7]), ([0, 1, 2, 3, 4, 5, 6, 7, 8], []), ([9, 8, 8, 0, 1, 2, 3, 4, 5, 6, 7, 8], [8, 9])])
def spec_l03Without.B6 : List Nat := [0, 1, 0, 4, 0, 28, 60, 124, 255, 511, 1023]
theorem spec_l03Without.tab6 : rtab .any (opsOf Try.f64 6) = spec_l03Without.T6 := by kernel_rfl
theorem spec_l03Without.bits6 : waitsOk spec_l03Without.T6.2 spec_l03Without.B6 = true := by kernel_rfl
abbrev q10_0 := #[o_,o_,o_,o_,o_,o_,o_,o_,o_,o_,o_]
abbrev q10_1 := #[i_,o_,o_,o_,o_,o_,o_,o_,o_,o_,o_]
abbrev q10_2 := #[i_,o_,i_,o_,o_,o_,o_,o_,o_,o_,o_]
abbrev q10_3 := #[i_,o_,i_,o_,i_,o_,o_,o_,o_,o_,o_]
abbrev q10_4 := #[i_,i_,i_,o_,i_,o_,o_,o_,o_,o_,o_]
abbrev q10_5 := #[i_,i_,i_,i_,i_,o_,o_,o_,o_,o_,o_]
abbrev q10_6 := #[i_,i_,i_,i_,i_,i_,o_,o_,o_,o_,o_]
abbrev q10_7 := #[i_,i_,i_,i_,i_,i_,i_,o_,o_,o_,o_]
abbrev q10_8 := #[i_,i_,i_,i_,i_,i_,i_,i_,o_,o_,o_]
abbrev q10_9 := #[i_,i_,i_,i_,i_,i_,i_,i_,i_,o_,o_]
abbrev q10_10 := #[i_,i_,i_,i_,i_,i_,i_,i_,i_,i_,o_]
abbrev q10_11 := #[i_,i_,i_,i_,i_,i_,i_,i_,i_,i_,i_]
set_option maxHeartbeats 8000000 in
set_option maxRecDepth 100000 in
theorem spec_l03Without.calls (k : Nat) (A0_0 : Option Addr) (c0_0 : Nat) (l0_0 : List (S45)) (a1 : ByteArray) (r : List (S45)) (w : World) (hr0_0 : Kd.C k45 w A0_0 l0_0.length l0_0) (hc0_0 : l0_0.length ≤ c0_0) (h : spec_l03Without.f k l0_0 a1 = some r) :
  Calls Try.prog 64 #[.agg #[.slice A0_0 l0_0.length c0_0], .string a1] w fun e w' => ∃ v0_ : Value, e = .returned (.agg #[v0_]) ∧ Kd.R k45 45 w' w.heap.size (fun _ => True) v0_ r ∧ Below w.heap.size w w' := by
 have hu29 := Try.underlying29
 have hu45 := Try.underlying45
 have HR0_0 := Aside0.mk hr0_0
 have HC0_0 := Aside0.mk hc0_0
 clear hr0_0 hc0_0
 have HB := Aside0.mk (Below.refl w.heap.size w)
 have H : (spec_l03Without.l0 k a1 0 l0_0 ([] : List (S45))) = some r := h
 clear h
 have H' := Aside0.mk H
 clear H
 go_enter Try.func64, Try.ntmps64
 go_wp2_with (first | ((with_reducible refine gate_dst (N := 2) rfl ?_); refine zx (N := 2) (cs := #[.slice A0_0 l0_0.length c0_0]) (t := 29) ?_; intro Bg hg w3 hbox hb; have Ac := Aside0.mk (hbox); have GW185 := zg HB hg; have GE185 := zg HB hg; replace HB := zs HB hb; clear hb hbox hg) | ((with_reducible refine gate_dst (N := 4) rfl ?_); refine zx (N := 4) (cs := #[.slice none 0 0]) (t := 29) ?_; intro Be hg w4 hbox hb; have Af := Aside0.mk (hbox); have GW186 := zg HB hg; have GE186 := zg HB hg; replace HB := zs HB hb; have Aq := zl Ac hg; have Ap := zr Ac hg; replace Ac := zb Ac hb; clear hb hbox hg) | ((with_reducible refine gate_dst (N := 5) rfl ?_); refine zx (N := 5) (cs := #[.slice none 0 0]) (t := 29) ?_; intro Bc hg w5 hbox hb; have Ae := Aside0.mk (hbox); have GW187 := zg HB hg; have GE187 := zg HB hg; replace HB := zs HB hb; have Ah := zl Ac hg; have Ag := zr Ac hg; replace Ac := zb Ac hb; have Ao := zl Af hg; have Am := zr Af hg; replace Af := zb Af hb; clear hb hbox hg; have hnb6 := Ag.out; have hnc6 := Ah.out; have hnb7 := Am.out; have hnc7 := Ao.out; obtain ⟨Bz, Bx⟩ := zc1 Ae))
 go_loopg [6] k (fun kq v6 w' => ∃ (Aa : Int) (Ad : List (S45)) (Ai : Value), v6 = .int .i64 Aa ∧ Aside0 (spec_l03Without.l0 kq a1 Aa l0_0 Ad = some r) ∧ Aside0 (kq ≤ k) ∧ Aside0 (Kd.R k45 45 w' w.heap.size (fun _ => True) Ai Ad) ∧ Aside0 (w'.heap[Bg]? = some (.cells #[(.slice A0_0 l0_0.length c0_0)] 29 (0, 0))) ∧ Aside0 (w'.heap[Be]? = some (.cells #[(.slice none 0 0)] 29 (0, 0))) ∧ Aside0 (w'.heap[Bc]? = some (.cells #[Ai] 29 (0, 0))) ∧ Aside0 (Below w.heap.size w w'))
 case atStart => exact ⟨(0), (([] : List (S45))), (.slice none 0 0), zf, H', ⟨Nat.le_refl _⟩, ⟨by first | exact Kd.R_nil _ _ _ _ _ | exact Kd.N_nil _ _ _ _ _ | exact Kd.V_nil _ _ _ _ _ | exact Kd.Q_nil _ _ _ _ _ | exact Kd.S_nil _ _ _ _ _⟩, ⟨zkf Ac⟩, ⟨zkf Af⟩, ⟨zj Ae⟩, ⟨zw HB⟩⟩
 case round =>
  clear H'
  try clear p2
  try clear c6
  try clear c7
  try clear Bz Bx
  obtain ⟨Aa, Ad, Ai, rfl, HA, Bw, Ab, Ac, Af, Ae, HB⟩ := hrel
  cases gk with
  | zero => exact absurd HA.out (by simp [spec_l03Without.l0])
  | succ k1 =>
   have H := HA.out
   clear HA
   simp only [spec_l03Without.l0] at H
   by_cases c9 : Aa < (l0_0.length : Int)
   ·rw [if_pos c9] at H
    have B2 := decide_eq_true c9
    clear c9
    by_cases Bv : 0 ≤ Aa
    ·rw [if_pos Bv] at H
     have c10b0 := decide_eq_true Bv
     clear Bv
     by_cases Bl : ((rd_T45 l0_0 Aa).f0).toList = a1.toList
     ·rw [if_pos Bl] at H
      have Bq : (((rd_T45 l0_0 Aa).f0).toList == a1.toList) = true := beq_iff_eq.mpr Bl
      have Bp : (((rd_T45 l0_0 Aa).f0).toList != a1.toList) = false := bne_eq_false_iff_eq.mpr Bl
      clear Bl
      have H' := Aside0.mk H
      clear H
      have hnb12 := Aq.out
      have hnc12 := Ap.out
      have hnb13 := Ah.out
      have hnc13 := Ag.out
      obtain ⟨_, _⟩ := zc1 Ac
      have Bb : 0 ≤ (Aa : Int) := of_decide_eq_true za
      have Ba : Aa < (l0_0.length : Int) := of_decide_eq_true za
      obtain ⟨Ar, Bk, Al, Ak, Aj⟩ := at_T45 HR0_0.out Aa Bb Ba
      cases Bk
      replace Al := zU HB.out Al
      replace Ak := zU HB.out Ak
      replace Aj := zU HB.out Aj
      replace Bb := eq_true Bb
      replace Ba := eq_true Ba
      go_wp2
      go_roundg k1
      case measure => have := Bw.out; omega
      case rel => exact ⟨(wrap64 (Aa + 1)), (Ad), (Ai), zf, H', ⟨by have := Bw.out; omega⟩, ⟨zo Ab.out⟩, ⟨zkf Ac⟩, ⟨zkf Af⟩, ⟨zkf Ae⟩, ⟨zw HB⟩⟩
     rw [if_neg Bl] at H
     have Bq : (((rd_T45 l0_0 Aa).f0).toList == a1.toList) = false := beq_eq_false_iff_ne.mpr Bl
     have Bp : (((rd_T45 l0_0 Aa).f0).toList != a1.toList) = true := bne_iff_ne.mpr Bl
     by_cases Bu : Ad.length < 3518437208883
     ·rw [if_pos Bu] at H
      have LMc15 := Aside0.mk Bu
      clear Bu
      obtain ⟨Bf, Bd⟩ : ∃ y_ : List (S45), y_ = (Ad ++ [(⟨(rd_T45 l0_0 Aa).f0, (rd_T45 l0_0 Aa).f1, (rd_T45 l0_0 Aa).f2⟩ : S45)]) := ⟨_, rfl⟩
      replace H : (spec_l03Without.l0 k1 a1 (wrap64 (Aa + 1)) l0_0 Bf) = some r := zrw Bd H
      have Ny190 := Aside0.mk Bd
      clear Bd
      have H' := Aside0.mk H
      clear H
      have hnb16 := Aq.out
      have hnc16 := Ap.out
      have hnb17 := Ah.out
      have hnc17 := Ag.out
      obtain ⟨_, _⟩ := zc1 Ac
      have Bb : 0 ≤ (Aa : Int) := of_decide_eq_true za
      have Ba : Aa < (l0_0.length : Int) := of_decide_eq_true za
      obtain ⟨Ar, Bk, Al, Ak, Aj⟩ := at_T45 HR0_0.out Aa Bb Ba
      cases Bk
      replace Al := zU HB.out Al
      replace Ak := zU HB.out Ak
      replace Aj := zU HB.out Aj
      replace Bb := eq_true Bb
      replace Ba := eq_true Ba
      try go_wp2
      replace Ab := zd3 Ab
      replace Ac := zd1 Ac
      replace Af := zd1 Af
      replace Ae := zd1 Ae
      replace HB := zd2 HB
      have Bj : 0 ≤ (Aa : Int) := of_decide_eq_true za
      have Bi : Aa < (l0_0.length : Int) := of_decide_eq_true za
      obtain ⟨Br, B1, Aw, Au, As⟩ := at_T45 HR0_0.out Aa Bj Bi
      have Ax := As
      have Ay := Au
      have Az := Aw
      obtain rfl : Ar = Br := (by injection B1)
      replace Aw := zU HB.out Aw
      replace Au := zU HB.out Au
      replace As := zU HB.out As
      replace Bj := eq_true Bj
      replace Bi := eq_true Bi
      refine start_ (n := 11) (S := fun w' => w'.cell? ⟨Bc, 0, none⟩ = some (Ai) ∧ w'.cell? ⟨Bg, 0, none⟩ = some (.slice (some Ar) l0_0.length c0_0) ∧ w'.cell? (Ar.add ((Aa).toNat * 3)) = some (.string ((rd_T45 l0_0 Aa).f0)) ∧ w'.cell? ⟨(Ar.add ((Aa).toNat * 3)).block, (Ar.add ((Aa).toNat * 3)).off + 1, none⟩ = some (.string ((rd_T45 l0_0 Aa).f1)) ∧ w'.cell? ⟨(Ar.add ((Aa).toNat * 3)).block, (Ar.add ((Aa).toNat * 3)).off + 2, none⟩ = some (.int .i64 ((rd_T45 l0_0 Aa).f2))) (ds := [10]) q10_0 (by kernel_rfl) rfl rfl ⟨zv Ae, zv Ac, (zU HB.out Az), (zU HB.out Ay), (zU HB.out Ax)⟩ (fun hHeld => ?_); refine with_tabW spec_l03Without.tab6 spec_l03Without.bits6 (fun HT_ HW_ => ?_)
      generalize wr.drew = w19 at Ab Ac Af Ae HB Aw Au As hHeld ⊢
      refine zP 0 (some 23) q10_1 HT_ ?_
      refine zP 2 (some 25) q10_2 HT_ ?_
      refine zP 4 (some 27) q10_3 HT_ ?_
      refine zT 1 (some 24) q10_4 HT_ HW_ hHeld ?_
      refine zT 3 (some 26) q10_5 HT_ HW_ hHeld ?_
      refine zP 5 (some 28) q10_6 HT_ ?_
      refine zT 6 (some 29) q10_7 HT_ HW_ hHeld ?_
      refine one_ (i := 7) (N := some 30) q10_8 rfl rfl (one_of HT_.out (by kernel_rfl)) (by decide) (fun K hK => ?_)
      refine value_ (w1 := ?_) (v := ?_) (by rfl) rfl ?_ ?_
      rotate_left 2
      ·go_simp
       constructor
       ·rfl
       rfl
      refine hK.out _ _ ⟨zva Ae, zva Ac, zca (zU HB.out Az), zca (zU HB.out Ay), zca (zU HB.out Ax)⟩ (fun hHeld => ?_)
      clear hK K
      refine zN ?_
      refine one_ (i := 8) (N := some 31) q10_9 rfl rfl (one_of HT_.out (by kernel_rfl)) (by decide) (fun K hK => ?_)
      refine Kd.R_append_step k45 (w0 := w) w.heap.size (by rfl) (.tmp 24) (.tmp 30) 27 45 (.agg #[(.string ⟨#[]⟩), (.string ⟨#[]⟩), (.int .i64 0)]) 40 rfl Try.underlying27 info45 rfl (by decide) (by omega) Ai Ad (⟨(rd_T45 l0_0 Aa).f0, (rd_T45 l0_0 Aa).f1, (rd_T45 l0_0 Aa).f2⟩ : S45) [.string ((rd_T45 l0_0 Aa).f0), .string ((rd_T45 l0_0 Aa).f1), .int .i64 ((rd_T45 l0_0 Aa).f2)] (fun _ => True) (fun _ => False) rfl rfl ?aP (fun _ hk => hk.elim) ?aF ?aO ?aB ?aS ?aL ?_
      (case aP => exact k45_mkM _ _ _ (⟨(rd_T45 l0_0 Aa).f0, (rd_T45 l0_0 Aa).f1, (rd_T45 l0_0 Aa).f2⟩ : S45))
      (case aB => exact (zw HB))
      (case aF => exact (fun _ _ => trivial))
      (case aO => exact (zo Ab.out))
      (case aS => exact (below_size (zw HB)))
      (case aL => have := LMc15.out; omega)
      intro v191 B8 ho hb hg hat
      rw [← Ny190.out] at ho
      replace Ac := zbg Ac hg Ab
      replace Af := zbg Af hg Ab
      replace Ae := zbg Ae hg Ab
      replace HB := Aside0.mk (hb)
      have Bh := Aside0.mk (ho)
      clear Ab
      clear ho hb hg hat
      obtain ⟨Bt, Bo, Bm⟩ := Kd.R_slice Bh.out
      (first | subst Bm | (injection Bm with f1_ f2_ f3_; have f4_ := f1_.symm; have f5_ := f3_.symm; clear f1_ f2_ f3_; subst f4_; subst f5_))
      refine hK.out _ _ ⟨zv Ae, zv Ac, (zU HB.out Az), (zU HB.out Ay), (zU HB.out Ax)⟩ (fun hHeld => ?_)
      clear hK K
      refine zN ?_
      refine zP 9 (some 32) q10_10 HT_ ?_
      refine last_ (i := 10) (N := none) q10_11 rfl rfl (one_of HT_.out (by kernel_rfl)) (by decide) (fun K hK => ?_)
      have hs22 : B8.cell? ⟨Bc, 0, none⟩ = some (Ai) := zv Ae
      have hfs22 := blk_frozen Ae.out 0
      have hns22_0 := Ah.out
      have hns22_1 := Ao.out
      have hms22_0 := Ag.out
      have hms22_1 := Am.out
      refine skip_ (w1 := ?_) (by rfl) rfl ?_ ?_
      rotate_left
      ·go_simp
       rfl
      refine hK.out _ _ ?_
      clear hK K
      refine done_ (done_of HT_.out (by kernel_rfl)) ?_
      try go_wp2
      go_roundg k1
      case measure => have := Bw.out; omega
      case rel => exact ⟨(wrap64 (Aa + 1)), (Bf), (.slice Bt Bf.length Bo), zf, H', ⟨by have := Bw.out; omega⟩, ⟨zo (Kd.R_mono (Kd.R_far (p := ⟨Bc, 0, none⟩) (Kd.R_types Bh.out Ae.out (by decide)) (fun _ hk => hk.2) (.slice Bt Bf.length Bo)) (fun _ hk => trivial))⟩, ⟨zkf Ac⟩, ⟨zkf Af⟩, ⟨zj Ae⟩, ⟨zw HB⟩⟩
     rw [if_neg Bu] at H
     exact absurd H (by simp)
    rw [if_neg Bv] at H
    exact absurd H (by simp)
   rw [if_neg c9] at H
   have B2 := decide_eq_false c9
   clear c9
   obtain rfl := Option.some.inj H
   have hnb23 := Aq.out
   have hnc23 := Ap.out
   have hnb24 := Ah.out
   have hnc24 := Ag.out
   obtain ⟨_, _⟩ := zc1 Ac
   have hnb26 := Am.out
   have hnc26 := Ao.out
   obtain ⟨_, _⟩ := zc1 Ae
   obtain ⟨Bs, Bn, B0⟩ := Kd.R_slice Ab.out
   subst B0
   obtain ⟨_, _⟩ := zc1 Af
   go_wp2
   refine bodyPost_ret (results_cell_row rfl _ _ Be 29 #[.slice Bs Ad.length Bn] (0, 0) _ rfl (zj Af) Try.underlying29 rfl (by kernel_rfl)) rfl ?_
   exact ⟨_, ze, zo (Kd.R_mono (Kd.R_far (p := ⟨Be, 0, none⟩) (Kd.R_types Ab.out Af.out (by decide)) (fun _ hk => hk.2) (.slice Bs Ad.length Bn)) (fun _ hk => trivial)), zw HB⟩

end Go.Proofs.Ytdiecogmaiglaaa.PFnActs
