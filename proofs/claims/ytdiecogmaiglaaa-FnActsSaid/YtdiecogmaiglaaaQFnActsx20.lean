import Derived.Test.YtdiecogmaiglaaaQFnActsx0
import Derived.Test.YtdiecogmaiglaaaQFnActsx6
import Derived.Test.YtdiecogmaiglaaaQFnActsx12
import Derived.Test.YtdiecogmaiglaaaQFnActsx19
namespace Go.Proofs.Ytdiecogmaiglaaa.PFnActs
open Go.RowKit Go.Proofs.YtdiecogmaiglaaaW.PrintWords Go.Proofs.YtdiecogmaiglaaaW.PrintLast Go.Proofs.YtdiecogmaiglaaaW.PrintMore
attribute [local go_sem] max2_int min2_int max_two min_two max_three min_three max_four min_four   -- for this text's walks alone
set_option linter.unusedVariables false
set_option linter.unusedSimpArgs false

/-! ### spec_CutActs: function 46 -/
def spec_CutActs.f (k : Nat) (l0_0 : List (S45)) (l1 : List (S55)) (a2 : Int) (l3 : List Int) : Option ((List (S45)) × Bool) := (spec_l01In.f a2 0 (l1.length : Int)).bind fun t527 => (if t527 = true then (if 0 ≤ a2 then (if a2 ≤ (l1.length : Int) then ((spec_DoActs.f k l0_0 (l1.take (a2 : Int).toNat)).bind fun bt532 => (if bt532.2 < a2 then (some (([] : List (S45)), false)) else ((spec_LoseDisk.f k bt532.1 l3).bind fun bt537 => (some (bt537.1, bt537.2))))) else (none)) else (none)) else (some (([] : List (S45)), false)))
theorem spec_CutActs.mono : ∀ a0 a1 a2 a3 k, LeO (spec_CutActs.f k a0 a1 a2 a3) (spec_CutActs.f (k + 1) a0 a1 a2 a3) := by
 intro a0 a1 a2 a3 k
 unfold spec_CutActs.f
 repeat' first
   | (with_reducible exact spec_DoActs.mono _ _ _)
   | (with_reducible exact spec_LoseDisk.mono _ _ _)
   | (with_reducible exact LeO.refl _)
   | (with_reducible exact LeO.none _)
   | (with_reducible refine LeO.ite ?_ ?_)
   | (with_reducible refine LeO.bind ?_ (fun _ => ?_))
   | exact spec_DoActs.mono _ _ _
   | exact spec_LoseDisk.mono _ _ _
   | exact LeO.none _
   | refine LeO.ite ?_ ?_
   | refine LeO.bind ?_ (fun _ => ?_)
def spec_CutActs.T3 : Bool × List (List Nat × List Nat) := (true, [([], []), ([], []), ([], []), ([1, 2], [1, 2]), ([0, 3], [0, 3]), ([4], [4]), ([5], [5]), ([5], [5]), ([], []), ([8, 6, 4, 0, 1, 2, 3, 4, 5, 6, 8], [6, 8]), ([7, 9, 0, 1, 2, 3, 4, 5, 6, 7, 8, 9], [7])])
def spec_CutActs.B3 : List Nat := [0, 0, 0, 6, 15, 31, 63, 63, 0, 383, 1023]
theorem spec_CutActs.tab3 : rtab .any (opsOf Try.f46 3) = spec_CutActs.T3 := by kernel_rfl
theorem spec_CutActs.bits3 : waitsOk spec_CutActs.T3.2 spec_CutActs.B3 = true := by kernel_rfl
abbrev q20_0 := #[o_,o_,o_,o_,o_,o_,o_,o_,o_,o_,o_]
abbrev q20_1 := #[o_,i_,o_,o_,o_,o_,o_,o_,o_,o_,o_]
abbrev q20_2 := #[o_,i_,i_,o_,o_,o_,o_,o_,o_,o_,o_]
abbrev q20_3 := #[o_,i_,i_,i_,o_,o_,o_,o_,o_,o_,o_]
abbrev q20_4 := #[i_,i_,i_,i_,o_,o_,o_,o_,o_,o_,o_]
abbrev q20_5 := #[i_,i_,i_,i_,i_,i_,i_,i_,i_,o_,o_]
abbrev q20_6 := #[i_,i_,i_,i_,i_,o_,o_,o_,o_,o_,o_]
abbrev q20_7 := #[i_,i_,i_,i_,o_,o_,o_,o_,i_,o_,o_]
abbrev q20_8 := #[i_,i_,i_,i_,i_,i_,o_,o_,o_,o_,o_]
abbrev q20_9 := #[i_,i_,i_,i_,i_,i_,i_,o_,o_,o_,o_]
abbrev q20_10 := #[i_,i_,i_,i_,i_,i_,i_,i_,o_,o_,o_]
abbrev q20_11 := #[i_,i_,i_,i_,i_,o_,o_,o_,i_,o_,o_]
abbrev q20_12 := #[i_,i_,i_,i_,i_,i_,o_,o_,i_,o_,o_]
abbrev q20_13 := #[i_,i_,i_,i_,i_,i_,i_,o_,i_,o_,o_]
abbrev q20_14 := #[i_,i_,i_,i_,i_,i_,i_,i_,i_,i_,o_]
abbrev q20_15 := #[i_,i_,i_,i_,i_,i_,i_,i_,i_,i_,i_]
set_option maxHeartbeats 8000000 in
set_option maxRecDepth 100000 in
theorem spec_CutActs.calls (k : Nat) (A0_0 : Option Addr) (c0_0 : Nat) (l0_0 : List (S45)) (A1 : Option Addr) (c1 : Nat) (l1 : List (S55)) (a2 : Int) (A3 : Option Addr) (c3 : Nat) (l3 : List Int) (r1 : List (S45)) (r2 : Bool) (w : World) (hr0_0 : Kd.C k45 w A0_0 l0_0.length l0_0) (hc0_0 : l0_0.length ≤ c0_0) (hr1 : Kd.C k55 w A1 l1.length l1) (hc1 : l1.length ≤ c1) (hr3 : Kd.C (Kd.int .i64) w A3 l3.length l3) (hc3 : l3.length ≤ c3) (h : spec_CutActs.f k l0_0 l1 a2 l3 = some (r1, r2)) :
  Calls Try.prog 46 #[.agg #[.slice A0_0 l0_0.length c0_0], .slice A1 l1.length c1, .int .i64 a2, .slice A3 l3.length c3] w fun e w' => ∃ v0_ : Value, e = .returned (.tuple #[.agg #[v0_], .bool r2]) ∧ Kd.R k45 45 w' w.heap.size (fun _ => True) v0_ r1 ∧ Below w.heap.size w w' := by
 have hu29 := Try.underlying29
 have HR0_0 := Aside0.mk hr0_0
 have Ba := Aside0.mk hc0_0
 clear hr0_0 hc0_0
 have HR1 := Aside0.mk hr1
 have Ca := Aside0.mk hc1
 clear hr1 hc1
 have HR3 := Aside0.mk hr3
 have Ch := Aside0.mk hc3
 clear hr3 hc3
 have HB := Aside0.mk (Below.refl w.heap.size w)
 have H : ((spec_l01In.f a2 0 (l1.length : Int)).bind fun Bo => (if Bo = true then (if 0 ≤ a2 then (if a2 ≤ (l1.length : Int) then ((spec_DoActs.f k l0_0 (l1.take (a2 : Int).toNat)).bind fun Ax => (if Ax.2 < a2 then (some (([] : List (S45)), false)) else ((spec_LoseDisk.f k Ax.1 l3).bind fun As => (some (As.1, As.2))))) else (none)) else (none)) else (some (([] : List (S45)), false)))) = some (r1, r2) := h
 clear h
 replace H := Option.bind_eq_some_iff.mp H
 obtain ⟨Bo, Cc, H⟩ := H
 have A5 := Aside0.mk Cc
 clear Cc
 by_cases c6 : Bo = true
 ·subst c6
  rw [if_pos rfl] at H
  by_cases c7 : 0 ≤ a2
  ·rw [if_pos c7] at H
   have c7b0 := eq_true c7
   have c7b1 := decide_eq_true c7
   clear c7
   by_cases c8 : a2 ≤ (l1.length : Int)
   ·rw [if_pos c8] at H
    have c8b0 := eq_true c8
    have c8b1 := decide_eq_true c8
    clear c8
    obtain ⟨Ar, Bc⟩ : ∃ y_ : List (S55), y_ = (l1.take (a2 : Int).toNat) := ⟨_, rfl⟩
    replace H : ((spec_DoActs.f k l0_0 Ar).bind fun Ax => (if Ax.2 < a2 then (some (([] : List (S45)), false)) else ((spec_LoseDisk.f k Ax.1 l3).bind fun As => (some (As.1, As.2))))) = some (r1, r2) := zrw Bc H
    have Ny528 := Aside0.mk Bc
    clear Bc
    replace H := Option.bind_eq_some_iff.mp H
    obtain ⟨⟨Ao, Au⟩, Cb, H⟩ := H
    replace H : (if Au < a2 then (some (([] : List (S45)), false)) else ((spec_LoseDisk.f k Ao l3).bind fun As => (some (As.1, As.2)))) = some (r1, r2) := H
    have A9 := Aside0.mk Cb
    clear Cb
    by_cases Bs : Au < a2
    ·rw [if_pos Bs] at H
     have Bx := decide_eq_true Bs
     clear Bs
     simp only [Option.some.injEq, Prod.mk.injEq] at H
     obtain ⟨rfl, rfl⟩ := H
     go_enter Try.func46, Try.ntmps46
     try go_wp2_with (first | ((with_reducible refine gate_dst (N := 4) rfl ?_); refine zx (N := 4) (cs := #[.slice A0_0 l0_0.length c0_0]) (t := 29) ?_; intro Ah hg w11 hbox hb; have Aa := Aside0.mk (hbox); have Bh := zg HB hg; have Bj := zg HB hg; replace HB := zs HB hb; clear hb hbox hg) | ((with_reducible refine gate_dst (N := 8) rfl ?_); refine zx (N := 8) (cs := #[.slice none 0 0]) (t := 29) ?_; intro Aj hg Bn hbox hb; have Ab := Aside0.mk (hbox); have Bg := zg HB hg; have Bi := zg HB hg; replace HB := zs HB hb; have Am := zl Aa hg; have Al := zr Aa hg; replace Aa := zb Aa hb; clear hb hbox hg) | ((with_reducible refine gate_callee (f := 49) rfl ?_); refine zG (some 15) Try.func49 #[.int .i64 a2, .int .i64 0, .int .i64 (l1.length : Int)] ?_; (with_reducible refine (spec_l01In.calls a2 0 (l1.length : Int) true _ A5.out).mono ?_); rintro e w' ⟨rfl, ⟨nd, rfl⟩⟩; refine ⟨_, rfl, ?_⟩; (try (rw [drewN_self Bn]; generalize hq_ : World.drewN Bn _ = Bn; have n0_ : Aside0 (Bn.heap[Ah]? = some (.cells #[.slice A0_0 l0_0.length c0_0] 29 (0, 0))) := ⟨by rw [← hq_]; exact (zk Aa)⟩; have n1_ : Aside0 (Bn.heap[Aj]? = some (.cells #[.slice none 0 0] 29 (0, 0))) := ⟨by rw [← hq_]; exact (zk Ab)⟩; have n2_ : Aside0 (Below w.heap.size w Bn) := ⟨by rw [← hq_]; exact (zw HB)⟩; clear Aa Ab HB hq_; have Aa := n0_; have Ab := n1_; have HB := n2_; clear n0_ n1_ n2_))))
     replace Aa := zd1 Aa
     replace Ab := zd1 Ab
     replace HB := zd2 HB
     have B2 : (a2 : Int) ≤ ((l1.length : Int) : Int) := of_decide_eq_true za
     obtain ⟨i014, hi014, _, hsz14, _⟩ := info_parts info55
     have hroom14 : l1.length ≤ c1 := Ca.out
     have hC14 : Kd.C k55 _ A1 l1.length l1 := HR1.out
     have hcut14 := cut_to (P := Try.prog) 62 55 .i64 Try.underlying62 hi014 A1 l1.length c1 a2 (of_decide_eq_true za) B2 hroom14
     have hr14 := Kd.C_take (m := (a2 : Int).toNat) hC14 (by omega)
     have Bq : Ar.length = (a2 : Int).toNat := (by rw [Ny528.out, List.length_take]; omega)
     rw [← Ny528.out] at hr14
     rw [← Bq] at hcut14
     have HR531 := Aside0.mk hr14
     have Ay := Aside0.mk (show Ar.length ≤ c1 from by omega)
     clear hr14 hC14 hroom14 hi014 hsz14
     have KY14 := Aside0.mk Bq
     clear Bq
     replace B2 := eq_true B2
     refine start_ (n := 11) (S := fun w' => w'.cell? ⟨Ah, 0, none⟩ = some (.slice A0_0 l0_0.length c0_0)) (ds := []) q20_0 (by kernel_rfl) rfl rfl (zv Aa) (fun hHeld => ?_); refine with_tabW spec_CutActs.tab3 spec_CutActs.bits3 (fun HT_ HW_ => ?_)
     generalize Bn.drew = w13 at Aa Ab HB HR531 hHeld ⊢
     refine zP 1 (some 20) q20_1 HT_ ?_
     refine zP 2 (some 21) q20_2 HT_ ?_
     refine zP 3 (some 22) q20_3 HT_ ?_
     refine zT 0 (some 19) q20_4 HT_ HW_ hHeld ?_
     refine join_ (σ := Value × Nat) 2 q20_5 (fun s_ => [(23, .tuple #[.agg #[s_.1], .int .i64 Au]), (10, .pointer (some ⟨s_.2, 0, none⟩)), (18, .tuple #[.agg #[s_.1], .int .i64 Au]), (24, .agg #[s_.1]), (25, .int .i64 Au)]) (fun s_ w' => (w'.cell? ⟨Ah, 0, none⟩ = some (.slice A0_0 l0_0.length c0_0)) ∧ (Kd.R k45 45 w' w.heap.size (fun _ => True) s_.1 Ao) ∧ (w'.heap[Ah]? = some (.cells #[.slice A0_0 l0_0.length c0_0] 29 (0, 0))) ∧ (w'.heap[Aj]? = some (.cells #[.slice none 0 0] 29 (0, 0))) ∧ (w'.heap[s_.2]? = some (.cells #[.slice none 0 0] 29 (0, 0))) ∧ (w.heap.size ≤ s_.2) ∧ (w.heap.size ≤ s_.2) ∧ (Ah ≠ s_.2) ∧ (s_.2 ≠ Ah) ∧ (Aj ≠ s_.2) ∧ (s_.2 ≠ Aj) ∧ (Below w.heap.size w w')) ?_ ?_
     rotate_left
     ·intro hCont
      refine two_ (i := 4) (j := 8) (Ni := some 23) (Nj := some 10) q20_6 q20_7 rfl rfl rfl rfl (two_of HT_.out (by kernel_rfl)) (by decide) (by decide) (fun K hK => ?_) (fun K hK => ?_)
      ·skip
       refine zH Try.func39 #[.agg #[.slice A0_0 l0_0.length c0_0], .slice A1 Ar.length c1] ?_
       with_reducible refine (spec_DoActs.calls k _ _ l0_0 _ _ Ar Ao Au _ ?side1 ?side2 ?side3 ?side4 A9.out).mono ?_
       (case side1 => exact zI (Kd.C_below HR0_0.out HB.out))
       (case side2 => exact Ba.out)
       (case side3 => exact zI (Kd.C_below HR531.out HB.out))
       (case side4 => exact Ay.out)
       rintro e Cg ⟨Aw, rfl, Az, hb⟩
       refine ⟨_, rfl, ?_⟩
       have Ak := Aside0.mk (Kd.R_lower Az (below_size (zw HB)))
       replace Aa := zb Aa hb
       replace Ab := zb Ab hb
       replace HB := zs HB hb
       (try clear hb)
       (try clear hb2)
       (try clear hk)
       (try clear hi)
       (try clear Az)
       refine hK.out _ _ (zv Aa) (fun hHeld => ?_)
       clear hK K
       refine zN ?_
       refine zP 5 (some 18) q20_8 HT_ ?_
       refine zP 6 (some 24) q20_9 HT_ ?_
       refine zP 7 (some 25) q20_10 HT_ ?_
       refine one_ (i := 8) (N := some 10) q20_5 rfl rfl (one_of HT_.out (by kernel_rfl)) (by decide) (fun K hK => ?_)
       refine box_step ?hg (N := 10) ?hd (cs := #[.slice none 0 0]) (t := 29) ?hr ?_; (case hd => rfl); (case hg => rfl); (case hr => first | (go_simp; done) | (go_simp; rfl))
       intro Af hg Cf hbox hb
       replace Ak := zy Ak hb
       have Ai := Aside0.mk (hbox)
       have Ap := zg HB hg
       have Aq := zg HB hg
       replace HB := zs HB hb
       have Ac := zl Aa hg
       have Ag := zr Aa hg
       replace Aa := zb Aa hb
       have Ae := zl Ab hg
       have Ad := zr Ab hg
       replace Ab := zb Ab hb
       clear hb hbox hg
       refine hK.out _ _ (zv Aa) (fun hHeld => ?_)
       clear hK K
       refine zN ?_
       exact norm_ (by simp only [putAll, Act.put, zA, zB, zC]) (hCont (Aw, Af) _ ⟨hHeld, (zo Ak.out), (zk Aa), (zk Ab), (zk Ai), Ap.out, Aq.out, Ac.out, Ag.out, Ae.out, Ad.out, (zw HB)⟩)
      refine box_step ?hg (N := 10) ?hd (cs := #[.slice none 0 0]) (t := 29) ?hr ?_; (case hd => rfl); (case hg => rfl); (case hr => first | (go_simp; done) | (go_simp; rfl))
      intro Af hg Cg hbox hb
      have Ai := Aside0.mk (hbox)
      have Ap := zg HB hg
      have Aq := zg HB hg
      replace HB := zs HB hb
      have Ac := zl Aa hg
      have Ag := zr Aa hg
      replace Aa := zb Aa hb
      have Ae := zl Ab hg
      have Ad := zr Ab hg
      replace Ab := zb Ab hb
      clear hb hbox hg
      refine hK.out _ _ (zv Aa) (fun hHeld => ?_)
      clear hK K
      refine zN ?_
      refine one_ (i := 4) (N := some 23) q20_11 rfl rfl (one_of HT_.out (by kernel_rfl)) (by decide) (fun K hK => ?_)
      refine zH Try.func39 #[.agg #[.slice A0_0 l0_0.length c0_0], .slice A1 Ar.length c1] ?_
      with_reducible refine (spec_DoActs.calls k _ _ l0_0 _ _ Ar Ao Au _ ?side1 ?side2 ?side3 ?side4 A9.out).mono ?_
      (case side1 => exact zI (Kd.C_below HR0_0.out HB.out))
      (case side2 => exact Ba.out)
      (case side3 => exact zI (Kd.C_below HR531.out HB.out))
      (case side4 => exact Ay.out)
      rintro e Cf ⟨Aw, rfl, Az, hb⟩
      refine ⟨_, rfl, ?_⟩
      have Ak := Aside0.mk (Kd.R_lower Az (below_size (zw HB)))
      replace Aa := zb Aa hb
      replace Ab := zb Ab hb
      replace Ai := zb Ai hb
      replace HB := zs HB hb
      (try clear hb)
      (try clear hb2)
      (try clear hk)
      (try clear hi)
      (try clear Az)
      refine hK.out _ _ (zv Aa) (fun hHeld => ?_)
      clear hK K
      refine zN ?_
      refine zP 5 (some 18) q20_12 HT_ ?_
      refine zP 6 (some 24) q20_13 HT_ ?_
      refine zP 7 (some 25) q20_5 HT_ ?_
      exact norm_ (by simp only [putAll, Act.put, zA, zB, zC]) (hCont (Aw, Af) _ ⟨hHeld, (zo Ak.out), (zk Aa), (zk Ab), (zk Ai), Ap.out, Aq.out, Ac.out, Ag.out, Ae.out, Ad.out, (zw HB)⟩)
     rintro ⟨Aw, Af⟩ Bm ⟨hS_, h0_, h1_, h2_, h3_, h4_, h5_, h6_, h7_, h8_, h9_, h10_⟩
     have n0_ : Aside0 (Kd.R k45 45 Bm w.heap.size (fun _ => True) Aw Ao) := ⟨h0_⟩
     have n1_ : Aside0 (Bm.heap[Ah]? = some (.cells #[.slice A0_0 l0_0.length c0_0] 29 (0, 0))) := ⟨h1_⟩
     have n2_ : Aside0 (Bm.heap[Aj]? = some (.cells #[.slice none 0 0] 29 (0, 0))) := ⟨h2_⟩
     have n3_ : Aside0 (Bm.heap[Af]? = some (.cells #[.slice none 0 0] 29 (0, 0))) := ⟨h3_⟩
     have n4_ : Aside0 (w.heap.size ≤ Af) := ⟨h4_⟩
     have n5_ : Aside0 (w.heap.size ≤ Af) := ⟨h5_⟩
     have n6_ : Aside0 (Ah ≠ Af) := ⟨h6_⟩
     have n7_ : Aside0 (Af ≠ Ah) := ⟨h7_⟩
     have n8_ : Aside0 (Aj ≠ Af) := ⟨h8_⟩
     have n9_ : Aside0 (Af ≠ Aj) := ⟨h9_⟩
     have n10_ : Aside0 (Below w.heap.size w Bm) := ⟨h10_⟩
     clear Aa
     clear Ab
     clear HB
     clear h0_ h1_ h2_ h3_ h4_ h5_ h6_ h7_ h8_ h9_ h10_
     have Ak := n0_
     have Aa := n1_
     have Ab := n2_
     have Ai := n3_
     have Ap := n4_
     have Aq := n5_
     have Ac := n6_
     have Ag := n7_
     have Ae := n8_
     have Ad := n9_
     have HB := n10_
     clear n0_ n1_ n2_ n3_ n4_ n5_ n6_ n7_ n8_ n9_ n10_
     have hHeld : Bm.cell? ⟨Ah, 0, none⟩ = some (.slice A0_0 l0_0.length c0_0) := hS_
     obtain ⟨Ao18, co18, Bv⟩ := Kd.R_slice Ak.out
     (first | subst Bv | (injection Bv with f1_ f2_ f3_; have f4_ := f1_.symm; have f5_ := f3_.symm; clear f1_ f2_ f3_; subst f4_; subst f5_))
     refine norm_ (a' := ?_) ?_ ?_
     rotate_left
     ·simp only [putAll, Act.put, zA, zB, zC]
      rfl
     refine one_ (i := 9) (N := none) q20_14 rfl rfl (one_of HT_.out (by kernel_rfl)) (by decide) (fun K hK => ?_)
     have hs19 : Bm.cell? ⟨Af, 0, none⟩ = some (.slice none 0 0) := zv Ai
     have hfs19 := blk_frozen Ai.out 0
     have hns19_0 := Ac.out
     have hns19_1 := Ae.out
     have hms19_0 := Ag.out
     have hms19_1 := Ad.out
     refine skip_ (w1 := ?_) (by rfl) rfl ?_ ?_
     rotate_left
     ·go_simp
      rfl
     refine hK.out _ _ (((cell_far (p := ⟨Af, _, none⟩) Ac.out _).trans (hHeld))) (fun hHeld => ?_)
     clear hK K
     refine zP 10 (some 11) q20_15 HT_ ?_
     refine done_ (done_of HT_.out (by kernel_rfl)) ?_
     have hnb20 := Al.out
     have hnc20 := Am.out
     have hnb21 := Ae.out
     have hnc21 := Ad.out
     obtain ⟨_, _⟩ := zc1 Ab
     try go_wp2
     refine bodyPost_ret (results_ct rfl _ _ Aj 29 #[.slice none 0 0] (0, 0) _ rfl (zj Ab) Try.underlying29 rfl (by kernel_rfl)) rfl ?_
     exact ⟨_, ze, by first | exact Kd.R_nil _ _ _ _ _ | exact Kd.N_nil _ _ _ _ _ | exact Kd.V_nil _ _ _ _ _ | exact Kd.Q_nil _ _ _ _ _ | exact Kd.S_nil _ _ _ _ _, zw HB⟩
    rw [if_neg Bs] at H
    have Bx := decide_eq_false Bs
    clear Bs
    replace H := Option.bind_eq_some_iff.mp H
    obtain ⟨⟨Be, Bt⟩, B0, H⟩ := H
    replace H : (some (Be, Bt)) = some (r1, r2) := H
    have Ci := Aside0.mk B0
    clear B0
    simp only [Option.some.injEq, Prod.mk.injEq] at H
    obtain ⟨rfl, rfl⟩ := H
    go_enter Try.func46, Try.ntmps46
    try go_wp2_with (first | ((with_reducible refine gate_dst (N := 4) rfl ?_); refine zx (N := 4) (cs := #[.slice A0_0 l0_0.length c0_0]) (t := 29) ?_; intro Ah hg w24 hbox hb; have Aa := Aside0.mk (hbox); have Bh := zg HB hg; have Bj := zg HB hg; replace HB := zs HB hb; clear hb hbox hg) | ((with_reducible refine gate_dst (N := 8) rfl ?_); refine zx (N := 8) (cs := #[.slice none 0 0]) (t := 29) ?_; intro Aj hg Bl hbox hb; have Ab := Aside0.mk (hbox); have Bg := zg HB hg; have Bi := zg HB hg; replace HB := zs HB hb; have Am := zl Aa hg; have Al := zr Aa hg; replace Aa := zb Aa hb; clear hb hbox hg) | ((with_reducible refine gate_callee (f := 49) rfl ?_); refine zG (some 15) Try.func49 #[.int .i64 a2, .int .i64 0, .int .i64 (l1.length : Int)] ?_; (with_reducible refine (spec_l01In.calls a2 0 (l1.length : Int) true _ A5.out).mono ?_); rintro e w' ⟨rfl, ⟨nd, rfl⟩⟩; refine ⟨_, rfl, ?_⟩; (try (rw [drewN_self Bl]; generalize hq_ : World.drewN Bl _ = Bl; have n0_ : Aside0 (Bl.heap[Ah]? = some (.cells #[.slice A0_0 l0_0.length c0_0] 29 (0, 0))) := ⟨by rw [← hq_]; exact (zk Aa)⟩; have n1_ : Aside0 (Bl.heap[Aj]? = some (.cells #[.slice none 0 0] 29 (0, 0))) := ⟨by rw [← hq_]; exact (zk Ab)⟩; have n2_ : Aside0 (Below w.heap.size w Bl) := ⟨by rw [← hq_]; exact (zw HB)⟩; clear Aa Ab HB hq_; have Aa := n0_; have Ab := n1_; have HB := n2_; clear n0_ n1_ n2_))))
    replace Aa := zd1 Aa
    replace Ab := zd1 Ab
    replace HB := zd2 HB
    have B1 : (a2 : Int) ≤ ((l1.length : Int) : Int) := of_decide_eq_true za
    obtain ⟨i027, hi027, _, hsz27, _⟩ := info_parts info55
    have hroom27 : l1.length ≤ c1 := Ca.out
    have hC27 : Kd.C k55 _ A1 l1.length l1 := HR1.out
    have hcut27 := cut_to (P := Try.prog) 62 55 .i64 Try.underlying62 hi027 A1 l1.length c1 a2 (of_decide_eq_true za) B1 hroom27
    have hr27 := Kd.C_take (m := (a2 : Int).toNat) hC27 (by omega)
    have Bp : Ar.length = (a2 : Int).toNat := (by rw [Ny528.out, List.length_take]; omega)
    rw [← Ny528.out] at hr27
    rw [← Bp] at hcut27
    have HR531 := Aside0.mk hr27
    have Ay := Aside0.mk (show Ar.length ≤ c1 from by omega)
    clear hr27 hC27 hroom27 hi027 hsz27
    have KY27 := Aside0.mk Bp
    clear Bp
    replace B1 := eq_true B1
    refine start_ (n := 11) (S := fun w' => w'.cell? ⟨Ah, 0, none⟩ = some (.slice A0_0 l0_0.length c0_0)) (ds := []) q20_0 (by kernel_rfl) rfl rfl (zv Aa) (fun hHeld => ?_); refine with_tabW spec_CutActs.tab3 spec_CutActs.bits3 (fun HT_ HW_ => ?_)
    generalize Bl.drew = w26 at Aa Ab HB HR531 hHeld ⊢
    refine zP 1 (some 20) q20_1 HT_ ?_
    refine zP 2 (some 21) q20_2 HT_ ?_
    refine zP 3 (some 22) q20_3 HT_ ?_
    refine zT 0 (some 19) q20_4 HT_ HW_ hHeld ?_
    refine join_ (σ := Value × Nat) 2 q20_5 (fun s_ => [(23, .tuple #[.agg #[s_.1], .int .i64 Au]), (10, .pointer (some ⟨s_.2, 0, none⟩)), (18, .tuple #[.agg #[s_.1], .int .i64 Au]), (24, .agg #[s_.1]), (25, .int .i64 Au)]) (fun s_ w' => (w'.cell? ⟨Ah, 0, none⟩ = some (.slice A0_0 l0_0.length c0_0)) ∧ (Kd.R k45 45 w' w.heap.size (fun _ => True) s_.1 Ao) ∧ (w'.heap[Ah]? = some (.cells #[.slice A0_0 l0_0.length c0_0] 29 (0, 0))) ∧ (w'.heap[Aj]? = some (.cells #[.slice none 0 0] 29 (0, 0))) ∧ (w'.heap[s_.2]? = some (.cells #[.slice none 0 0] 29 (0, 0))) ∧ (w.heap.size ≤ s_.2) ∧ (w.heap.size ≤ s_.2) ∧ (Ah ≠ s_.2) ∧ (s_.2 ≠ Ah) ∧ (Aj ≠ s_.2) ∧ (s_.2 ≠ Aj) ∧ (Below w.heap.size w w')) ?_ ?_
    rotate_left
    ·intro hCont
     refine two_ (i := 4) (j := 8) (Ni := some 23) (Nj := some 10) q20_6 q20_7 rfl rfl rfl rfl (two_of HT_.out (by kernel_rfl)) (by decide) (by decide) (fun K hK => ?_) (fun K hK => ?_)
     ·skip
      refine zH Try.func39 #[.agg #[.slice A0_0 l0_0.length c0_0], .slice A1 Ar.length c1] ?_
      with_reducible refine (spec_DoActs.calls k _ _ l0_0 _ _ Ar Ao Au _ ?side1 ?side2 ?side3 ?side4 A9.out).mono ?_
      (case side1 => exact zI (Kd.C_below HR0_0.out HB.out))
      (case side2 => exact Ba.out)
      (case side3 => exact zI (Kd.C_below HR531.out HB.out))
      (case side4 => exact Ay.out)
      rintro e Ce ⟨Aw, rfl, Az, hb⟩
      refine ⟨_, rfl, ?_⟩
      have Ak := Aside0.mk (Kd.R_lower Az (below_size (zw HB)))
      replace Aa := zb Aa hb
      replace Ab := zb Ab hb
      replace HB := zs HB hb
      (try clear hb)
      (try clear hb2)
      (try clear hk)
      (try clear hi)
      (try clear Az)
      refine hK.out _ _ (zv Aa) (fun hHeld => ?_)
      clear hK K
      refine zN ?_
      refine zP 5 (some 18) q20_8 HT_ ?_
      refine zP 6 (some 24) q20_9 HT_ ?_
      refine zP 7 (some 25) q20_10 HT_ ?_
      refine one_ (i := 8) (N := some 10) q20_5 rfl rfl (one_of HT_.out (by kernel_rfl)) (by decide) (fun K hK => ?_)
      refine box_step ?hg (N := 10) ?hd (cs := #[.slice none 0 0]) (t := 29) ?hr ?_; (case hd => rfl); (case hg => rfl); (case hr => first | (go_simp; done) | (go_simp; rfl))
      intro Af hg Cd hbox hb
      replace Ak := zy Ak hb
      have Ai := Aside0.mk (hbox)
      have Ap := zg HB hg
      have Aq := zg HB hg
      replace HB := zs HB hb
      have Ac := zl Aa hg
      have Ag := zr Aa hg
      replace Aa := zb Aa hb
      have Ae := zl Ab hg
      have Ad := zr Ab hg
      replace Ab := zb Ab hb
      clear hb hbox hg
      refine hK.out _ _ (zv Aa) (fun hHeld => ?_)
      clear hK K
      refine zN ?_
      exact norm_ (by simp only [putAll, Act.put, zA, zB, zC]) (hCont (Aw, Af) _ ⟨hHeld, (zo Ak.out), (zk Aa), (zk Ab), (zk Ai), Ap.out, Aq.out, Ac.out, Ag.out, Ae.out, Ad.out, (zw HB)⟩)
     refine box_step ?hg (N := 10) ?hd (cs := #[.slice none 0 0]) (t := 29) ?hr ?_; (case hd => rfl); (case hg => rfl); (case hr => first | (go_simp; done) | (go_simp; rfl))
     intro Af hg Ce hbox hb
     have Ai := Aside0.mk (hbox)
     have Ap := zg HB hg
     have Aq := zg HB hg
     replace HB := zs HB hb
     have Ac := zl Aa hg
     have Ag := zr Aa hg
     replace Aa := zb Aa hb
     have Ae := zl Ab hg
     have Ad := zr Ab hg
     replace Ab := zb Ab hb
     clear hb hbox hg
     refine hK.out _ _ (zv Aa) (fun hHeld => ?_)
     clear hK K
     refine zN ?_
     refine one_ (i := 4) (N := some 23) q20_11 rfl rfl (one_of HT_.out (by kernel_rfl)) (by decide) (fun K hK => ?_)
     refine zH Try.func39 #[.agg #[.slice A0_0 l0_0.length c0_0], .slice A1 Ar.length c1] ?_
     with_reducible refine (spec_DoActs.calls k _ _ l0_0 _ _ Ar Ao Au _ ?side1 ?side2 ?side3 ?side4 A9.out).mono ?_
     (case side1 => exact zI (Kd.C_below HR0_0.out HB.out))
     (case side2 => exact Ba.out)
     (case side3 => exact zI (Kd.C_below HR531.out HB.out))
     (case side4 => exact Ay.out)
     rintro e Cd ⟨Aw, rfl, Az, hb⟩
     refine ⟨_, rfl, ?_⟩
     have Ak := Aside0.mk (Kd.R_lower Az (below_size (zw HB)))
     replace Aa := zb Aa hb
     replace Ab := zb Ab hb
     replace Ai := zb Ai hb
     replace HB := zs HB hb
     (try clear hb)
     (try clear hb2)
     (try clear hk)
     (try clear hi)
     (try clear Az)
     refine hK.out _ _ (zv Aa) (fun hHeld => ?_)
     clear hK K
     refine zN ?_
     refine zP 5 (some 18) q20_12 HT_ ?_
     refine zP 6 (some 24) q20_13 HT_ ?_
     refine zP 7 (some 25) q20_5 HT_ ?_
     exact norm_ (by simp only [putAll, Act.put, zA, zB, zC]) (hCont (Aw, Af) _ ⟨hHeld, (zo Ak.out), (zk Aa), (zk Ab), (zk Ai), Ap.out, Aq.out, Ac.out, Ag.out, Ae.out, Ad.out, (zw HB)⟩)
    rintro ⟨Aw, Af⟩ Bk ⟨hS_, h0_, h1_, h2_, h3_, h4_, h5_, h6_, h7_, h8_, h9_, h10_⟩
    have n0_ : Aside0 (Kd.R k45 45 Bk w.heap.size (fun _ => True) Aw Ao) := ⟨h0_⟩
    have n1_ : Aside0 (Bk.heap[Ah]? = some (.cells #[.slice A0_0 l0_0.length c0_0] 29 (0, 0))) := ⟨h1_⟩
    have n2_ : Aside0 (Bk.heap[Aj]? = some (.cells #[.slice none 0 0] 29 (0, 0))) := ⟨h2_⟩
    have n3_ : Aside0 (Bk.heap[Af]? = some (.cells #[.slice none 0 0] 29 (0, 0))) := ⟨h3_⟩
    have n4_ : Aside0 (w.heap.size ≤ Af) := ⟨h4_⟩
    have n5_ : Aside0 (w.heap.size ≤ Af) := ⟨h5_⟩
    have n6_ : Aside0 (Ah ≠ Af) := ⟨h6_⟩
    have n7_ : Aside0 (Af ≠ Ah) := ⟨h7_⟩
    have n8_ : Aside0 (Aj ≠ Af) := ⟨h8_⟩
    have n9_ : Aside0 (Af ≠ Aj) := ⟨h9_⟩
    have n10_ : Aside0 (Below w.heap.size w Bk) := ⟨h10_⟩
    clear Aa
    clear Ab
    clear HB
    clear h0_ h1_ h2_ h3_ h4_ h5_ h6_ h7_ h8_ h9_ h10_
    have Ak := n0_
    have Aa := n1_
    have Ab := n2_
    have Ai := n3_
    have Ap := n4_
    have Aq := n5_
    have Ac := n6_
    have Ag := n7_
    have Ae := n8_
    have Ad := n9_
    have HB := n10_
    clear n0_ n1_ n2_ n3_ n4_ n5_ n6_ n7_ n8_ n9_ n10_
    have hHeld : Bk.cell? ⟨Ah, 0, none⟩ = some (.slice A0_0 l0_0.length c0_0) := hS_
    obtain ⟨Bd, Bb, Bu⟩ := Kd.R_slice Ak.out
    (first | subst Bu | (injection Bu with f1_ f2_ f3_; have f4_ := f1_.symm; have f5_ := f3_.symm; clear f1_ f2_ f3_; subst f4_; subst f5_))
    refine norm_ (a' := ?_) ?_ ?_
    rotate_left
    ·simp only [putAll, Act.put, zA, zB, zC]
     rfl
    refine one_ (i := 9) (N := none) q20_14 rfl rfl (one_of HT_.out (by kernel_rfl)) (by decide) (fun K hK => ?_)
    have hs32 : Bk.cell? ⟨Af, 0, none⟩ = some (.slice none 0 0) := zv Ai
    have hfs32 := blk_frozen Ai.out 0
    have hns32_0 := Ac.out
    have hns32_1 := Ae.out
    have hms32_0 := Ag.out
    have hms32_1 := Ad.out
    refine skip_ (w1 := ?_) (by rfl) rfl ?_ ?_
    rotate_left
    ·go_simp
     rfl
    refine hK.out _ _ (((cell_far (p := ⟨Af, _, none⟩) Ac.out _).trans (hHeld))) (fun hHeld => ?_)
    clear hK K
    refine zP 10 (some 11) q20_15 HT_ ?_
    refine done_ (done_of HT_.out (by kernel_rfl)) ?_
    have hnb33 := Ag.out
    have hnc33 := Ac.out
    have hnb34 := Ad.out
    have hnc34 := Ae.out
    obtain ⟨_, _⟩ := zc1 Ai
    try go_wp2_with (first | ((with_reducible refine gate_callee (f := 28) rfl ?_); refine zG (some 32) Try.func28 #[.agg #[.slice Bd Ao.length Bb], .slice A3 l3.length c3] ?_; (with_reducible refine (spec_LoseDisk.calls k _ _ Ao _ _ l3 Be Bt _ ?side1 ?side2 ?side3 ?side4 Ci.out).mono ?_); (case side1 => refine (Kd.R_reads' (e := 45) (base := w.heap.size) (ok := fun k_ => True) (n := Ao.length) (c := Bb) ?_).2.2; exact (zo ((Kd.R_mono (Kd.R_far (p := ⟨Af, 0, none⟩) (Kd.R_types Ak.out Ai.out (by decide)) (fun _ hk => hk.2) (.slice Bd Ao.length Bb)) (fun _ h_ => h_.1))))); (case side2 => exact (Kd.R_reads' Ak.out).2.1); (case side3 => exact Kd.C_below HR3.out (zw HB)); (case side4 => exact Ch.out); rintro e w36 ⟨v538, rfl, Az, hb⟩; refine ⟨_, rfl, ?_⟩; have Bf := Aside0.mk (Kd.R_lower (Kd.R_new' Az (Kd.R_lt (zo ((Kd.R_mono (Kd.R_far (p := ⟨Af, 0, none⟩) (Kd.R_types Ak.out Ai.out (by decide)) (fun _ hk => hk.2) (.slice Bd Ao.length Bb)) (fun _ h_ => h_.1)))))) (below_size (zw HB))); replace Ak := Aside0.mk (Kd.R_elder' (zo ((Kd.R_mono (Kd.R_far (p := ⟨Af, 0, none⟩) (Kd.R_types Ak.out Ai.out (by decide)) (fun _ hk => hk.2) (.slice Bd Ao.length Bb)) (fun _ h_ => h_.1)))) (Kd.R_base Az) hb); replace Aa := zbf Aa hb; replace Ab := zbf Ab hb; replace Ai := Aside0.mk (blk_below (g := Af) (o := .cells #[.slice Bd Ao.length Bb] 29 (0, 0)) (zj Ai) hb); replace HB := zs HB hb; clear Az hb; obtain ⟨Bz, Bw, B8⟩ := Kd.R_slice Bf.out; subst B8; have hnb38 := Al.out; have hnc38 := Am.out; obtain ⟨_, _⟩ := zc1 Ab))
    refine bodyPost_ret (results_ct rfl _ _ Aj 29 #[.slice Bz Be.length Bw] (0, 0) _ rfl (zj Ab) Try.underlying29 rfl (by kernel_rfl)) rfl ?_
    exact ⟨_, ze, zo (Kd.R_mono (Kd.R_far (p := ⟨Aj, 0, none⟩) (Kd.R_types Bf.out Ab.out (by decide)) (fun _ hk => hk.2) (.slice Bz Be.length Bw)) (fun _ hk => trivial)), zw HB⟩
   rw [if_neg c8] at H
   exact absurd H (by simp)
  rw [if_neg c7] at H
  exact absurd H (by simp)
 replace c6 := Bool.eq_false_iff.mpr c6
 subst c6
 rw [if_neg (show ¬ (false = true) by decide)] at H
 simp only [Option.some.injEq, Prod.mk.injEq] at H
 obtain ⟨rfl, rfl⟩ := H
 go_enter Try.func46, Try.ntmps46
 go_wp2_with (first | ((with_reducible refine gate_dst (N := 4) rfl ?_); refine zx (N := 4) (cs := #[.slice A0_0 l0_0.length c0_0]) (t := 29) ?_; intro Ah hg w40 hbox hb; have Aa := Aside0.mk (hbox); have Bh := zg HB hg; have Bj := zg HB hg; replace HB := zs HB hb; clear hb hbox hg) | ((with_reducible refine gate_dst (N := 8) rfl ?_); refine zx (N := 8) (cs := #[.slice none 0 0]) (t := 29) ?_; intro Aj hg Br hbox hb; have Ab := Aside0.mk (hbox); have Bg := zg HB hg; have Bi := zg HB hg; replace HB := zs HB hb; have Am := zl Aa hg; have Al := zr Aa hg; replace Aa := zb Aa hb; clear hb hbox hg) | ((with_reducible refine gate_callee (f := 49) rfl ?_); refine zG (some 15) Try.func49 #[.int .i64 a2, .int .i64 0, .int .i64 (l1.length : Int)] ?_; (with_reducible refine (spec_l01In.calls a2 0 (l1.length : Int) false _ A5.out).mono ?_); rintro e w' ⟨rfl, ⟨nd, rfl⟩⟩; refine ⟨_, rfl, ?_⟩; (try (rw [drewN_self Br]; generalize hq_ : World.drewN Br _ = Br; have n0_ : Aside0 (Br.heap[Ah]? = some (.cells #[.slice A0_0 l0_0.length c0_0] 29 (0, 0))) := ⟨by rw [← hq_]; exact (zk Aa)⟩; have n1_ : Aside0 (Br.heap[Aj]? = some (.cells #[.slice none 0 0] 29 (0, 0))) := ⟨by rw [← hq_]; exact (zk Ab)⟩; have n2_ : Aside0 (Below w.heap.size w Br) := ⟨by rw [← hq_]; exact (zw HB)⟩; clear Aa Ab HB hq_; have Aa := n0_; have Ab := n1_; have HB := n2_; clear n0_ n1_ n2_)); have hnb42 := Al.out; have hnc42 := Am.out; obtain ⟨_, _⟩ := zc1 Ab))
 refine bodyPost_ret (results_ct rfl _ _ Aj 29 #[.slice none 0 0] (0, 0) _ rfl (zj Ab) Try.underlying29 rfl (by kernel_rfl)) rfl ?_
 exact ⟨_, ze, by first | exact Kd.R_nil _ _ _ _ _ | exact Kd.N_nil _ _ _ _ _ | exact Kd.V_nil _ _ _ _ _ | exact Kd.Q_nil _ _ _ _ _ | exact Kd.S_nil _ _ _ _ _, zw HB⟩

end Go.Proofs.Ytdiecogmaiglaaa.PFnActs
