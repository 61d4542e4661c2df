import Derived.Test.YtdiecogmaiglaaaQFnActsx0
import Derived.Test.YtdiecogmaiglaaaQFnActsx7
namespace Go.Proofs.Ytdiecogmaiglaaa.PFnActs
open Go.RowKit Go.Proofs.YtdiecogmaiglaaaW.PrintWords Go.Proofs.YtdiecogmaiglaaaW.PrintLast Go.Proofs.YtdiecogmaiglaaaW.PrintMore
attribute [local go_sem] max2_int min2_int max_two min_two max_three min_three max_four min_four   -- for this text's walks alone
set_option linter.unusedVariables false
set_option linter.unusedSimpArgs false

/-! ### spec_LoseDisk: function 28 -/
mutual
def spec_LoseDisk.l0 : Nat → List Int → Int → List (S45) → List (S45) → Option ((List (S45)) × Bool)
 | 0, _, _, _, _ => none
 | k + 1, x1, x7, x507000, x510000 => if x7 < (x507000.length : Int) then (if 0 ≤ x7 then (if x7 < (x1.length : Int) then (spec_LoseDisk.j1 k x1 x7 (rd x1 x7) x507000 x510000 ((rd_T45 x507000 x7).f0) ((rd_T45 x507000 x7).f1) ((rd_T45 x507000 x7).f2)) else (spec_LoseDisk.j1 k x1 x7 0 x507000 x510000 ((rd_T45 x507000 x7).f0) ((rd_T45 x507000 x7).f1) ((rd_T45 x507000 x7).f2))) else (none)) else (some (x510000, true))
def spec_LoseDisk.j1 : Nat → List Int → Int → Int → List (S45) → List (S45) → ByteArray → ByteArray → Int → Option ((List (S45)) × Bool)
 | 0, _, _, _, _, _, _, _, _ => none
 | k + 1, x1, x7, x9, x507000, x510000, x512000, x512001, x512002 => if x9 > (x512001.size : Int) then (if (x512001.size : Int) < x512002 then (if 0 ≤ x512002 then (if x512002 ≤ (x512001.size : Int) then (if x510000.length < 3518437208883 then (spec_LoseDisk.l0 k x1 (wrap64 (x7 + 1)) x507000 (x510000 ++ [(⟨x512000, x512001.extract 0 (x512002 : Int).toNat, x512002⟩ : S45)])) else (none)) else (none)) else (none)) else (if 0 ≤ (x512001.size : Int) then (if (x512001.size : Int) ≤ (x512001.size : Int) then (if x510000.length < 3518437208883 then (spec_LoseDisk.l0 k x1 (wrap64 (x7 + 1)) x507000 (x510000 ++ [(⟨x512000, x512001.extract 0 ((x512001.size : Int) : Int).toNat, (x512001.size : Int)⟩ : S45)])) else (none)) else (none)) else (none))) else (if x9 < x512002 then (if 0 ≤ x512002 then (if x512002 ≤ (x512001.size : Int) then (if x510000.length < 3518437208883 then (spec_LoseDisk.l0 k x1 (wrap64 (x7 + 1)) x507000 (x510000 ++ [(⟨x512000, x512001.extract 0 (x512002 : Int).toNat, x512002⟩ : S45)])) else (none)) else (none)) else (none)) else (if 0 ≤ x9 then (if x9 ≤ (x512001.size : Int) then (if x510000.length < 3518437208883 then (spec_LoseDisk.l0 k x1 (wrap64 (x7 + 1)) x507000 (x510000 ++ [(⟨x512000, x512001.extract 0 (x9 : Int).toNat, x9⟩ : S45)])) else (none)) else (none)) else (none)))
end
def spec_LoseDisk.f (k : Nat) (l0_0 : List (S45)) (l1 : List Int) : Option ((List (S45)) × Bool) := (spec_DiskOk.f k l0_0).bind fun t508 => (if t508 = true then (spec_LoseDisk.l0 k l1 0 l0_0 ([] : List (S45))) else (some (([] : List (S45)), false)))
theorem spec_LoseDisk.mono_l : ∀ k, (∀ y0 y1 y2 y3, LeO (spec_LoseDisk.l0 k y0 y1 y2 y3) (spec_LoseDisk.l0 (k + 1) y0 y1 y2 y3)) ∧ (∀ y0 y1 y2 y3 y4 y5 y6 y7, LeO (spec_LoseDisk.j1 k y0 y1 y2 y3 y4 y5 y6 y7) (spec_LoseDisk.j1 (k + 1) y0 y1 y2 y3 y4 y5 y6 y7))
 | 0 => ⟨fun _ _ _ _ r h => by simp [spec_LoseDisk.l0] at h, fun _ _ _ _ _ _ _ _ r h => by simp [spec_LoseDisk.j1] at h⟩
 | k + 1 => by
  obtain ⟨ih0, ih1⟩ := spec_LoseDisk.mono_l k
  refine ⟨?_, ?_⟩
  ·intro y0 y1 y2 y3
   unfold spec_LoseDisk.l0
   repeat' first
   | (with_reducible exact ih0 _ _ _ _)
   | (with_reducible exact ih1 _ _ _ _ _ _ _ _)
   | (with_reducible exact spec_DiskOk.mono _ _)
   | (with_reducible exact LeO.refl _)
   | (with_reducible exact LeO.none _)
   | (with_reducible refine LeO.ite ?_ ?_)
   | (with_reducible refine LeO.bind ?_ (fun _ => ?_))
   | exact ih0 _ _ _ _
   | exact ih1 _ _ _ _ _ _ _ _
   | exact spec_DiskOk.mono _ _
   | exact LeO.none _
   | refine LeO.ite ?_ ?_
   | refine LeO.bind ?_ (fun _ => ?_)
  intro y0 y1 y2 y3 y4 y5 y6 y7
  unfold spec_LoseDisk.j1
  repeat' first
  | (with_reducible exact ih0 _ _ _ _)
  | (with_reducible exact ih1 _ _ _ _ _ _ _ _)
  | (with_reducible exact spec_DiskOk.mono _ _)
  | (with_reducible exact LeO.refl _)
  | (with_reducible exact LeO.none _)
  | (with_reducible refine LeO.ite ?_ ?_)
  | (with_reducible refine LeO.bind ?_ (fun _ => ?_))
  | exact ih0 _ _ _ _
  | exact ih1 _ _ _ _ _ _ _ _
  | exact spec_DiskOk.mono _ _
  | exact LeO.none _
  | refine LeO.ite ?_ ?_
  | refine LeO.bind ?_ (fun _ => ?_)
theorem spec_LoseDisk.mono : ∀ a0 a1 k, LeO (spec_LoseDisk.f k a0 a1) (spec_LoseDisk.f (k + 1) a0 a1) := by
 intro a0 a1 k
 obtain ⟨ih0, ih1⟩ := spec_LoseDisk.mono_l k
 unfold spec_LoseDisk.f
 repeat' first
   | (with_reducible exact ih0 _ _ _ _)
   | (with_reducible exact ih1 _ _ _ _ _ _ _ _)
   | (with_reducible exact spec_DiskOk.mono _ _)
   | (with_reducible exact LeO.refl _)
   | (with_reducible exact LeO.none _)
   | (with_reducible refine LeO.ite ?_ ?_)
   | (with_reducible refine LeO.bind ?_ (fun _ => ?_))
   | exact ih0 _ _ _ _
   | exact ih1 _ _ _ _ _ _ _ _
   | exact spec_DiskOk.mono _ _
   | exact LeO.none _
   | refine LeO.ite ?_ ?_
   | refine LeO.bind ?_ (fun _ => ?_)
def spec_LoseDisk.T15 : Bool × List (List Nat × List Nat) := (true, [([], []), ([0], [0]), ([], []), ([2], [2]), ([], []), ([4], [4]), ([], []), ([5, 6], [5, 6]), ([], []), ([3, 7, 8], [3, 7, 8]), ([9], [9]), ([1, 10], [1, 10]), ([0, 1, 2, 3, 4, 5, 6, 7, 8, 9, 10, 11], []), ([12, 11, 11, 0, 1, 2, 3, 4, 5, 6, 7, 8, 9, 10, 11], [11, 12])])
def spec_LoseDisk.B15 : List Nat := [0, 1, 0, 4, 0, 16, 0, 112, 0, 508, 1020, 2047, 4095, 8191]
theorem spec_LoseDisk.tab15 : rtab .any (opsOf Try.f28 15) = spec_LoseDisk.T15 := by kernel_rfl
theorem spec_LoseDisk.bits15 : waitsOk spec_LoseDisk.T15.2 spec_LoseDisk.B15 = true := by kernel_rfl
abbrev q19_0 := #[o_,o_,o_,o_,o_,o_,o_,o_,o_,o_,o_,o_,o_,o_]
abbrev q19_1 := #[i_,o_,o_,o_,o_,o_,o_,o_,o_,o_,o_,o_,o_,o_]
abbrev q19_2 := #[i_,o_,i_,o_,o_,o_,o_,o_,o_,o_,o_,o_,o_,o_]
abbrev q19_3 := #[i_,o_,i_,o_,i_,o_,o_,o_,o_,o_,o_,o_,o_,o_]
abbrev q19_4 := #[i_,o_,i_,o_,i_,o_,i_,o_,o_,o_,o_,o_,o_,o_]
abbrev q19_5 := #[i_,o_,i_,o_,i_,o_,i_,o_,i_,o_,o_,o_,o_,o_]
abbrev q19_6 := #[i_,i_,i_,o_,i_,o_,i_,o_,i_,o_,o_,o_,o_,o_]
abbrev q19_7 := #[i_,i_,i_,i_,i_,o_,i_,o_,i_,o_,o_,o_,o_,o_]
abbrev q19_8 := #[i_,i_,i_,i_,i_,i_,i_,o_,i_,o_,o_,o_,o_,o_]
abbrev q19_9 := #[i_,i_,i_,i_,i_,i_,i_,i_,i_,o_,o_,o_,o_,o_]
abbrev q19_10 := #[i_,i_,i_,i_,i_,i_,i_,i_,i_,i_,o_,o_,o_,o_]
abbrev q19_11 := #[i_,i_,i_,i_,i_,i_,i_,i_,i_,i_,i_,o_,o_,o_]
abbrev q19_12 := #[i_,i_,i_,i_,i_,i_,i_,i_,i_,i_,i_,i_,o_,o_]
abbrev q19_13 := #[i_,i_,i_,i_,i_,i_,i_,i_,i_,i_,i_,i_,i_,o_]
abbrev q19_14 := #[i_,i_,i_,i_,i_,i_,i_,i_,i_,i_,i_,i_,i_,i_]
set_option maxHeartbeats 8000000 in
set_option maxRecDepth 100000 in
theorem spec_LoseDisk.calls (k : Nat) (A0_0 : Option Addr) (c0_0 : Nat) (l0_0 : List (S45)) (A1 : Option Addr) (c1 : Nat) (l1 : List Int) (r1 : List (S45)) (r2 : Bool) (w : World) (hr0_0 : Kd.C k45 w A0_0 l0_0.length l0_0) (hc0_0 : l0_0.length ≤ c0_0) (hr1 : Kd.C (Kd.int .i64) w A1 l1.length l1) (hc1 : l1.length ≤ c1) (h : spec_LoseDisk.f k l0_0 l1 = some (r1, r2)) :
  Calls Try.prog 28 #[.agg #[.slice A0_0 l0_0.length c0_0], .slice A1 l1.length c1] w fun e w' => ∃ v0_ : Value, e = .returned (.tuple #[.agg #[v0_], .bool r2]) ∧ Kd.R k45 45 w' w.heap.size (fun _ => True) v0_ r1 ∧ Below w.heap.size w w' := by
 have hu29 := Try.underlying29
 have hu45 := Try.underlying45
 have HR0_0 := Aside0.mk hr0_0
 have Ce := Aside0.mk hc0_0
 clear hr0_0 hc0_0
 have HR1 := Aside0.mk hr1
 have HC1 := Aside0.mk hc1
 clear hr1 hc1
 have HB := Aside0.mk (Below.refl w.heap.size w)
 have H : ((spec_DiskOk.f k l0_0).bind fun Cf => (if Cf = true then (spec_LoseDisk.l0 k l1 0 l0_0 ([] : List (S45))) else (some (([] : List (S45)), false)))) = some (r1, r2) := h
 clear h
 replace H := Option.bind_eq_some_iff.mp H
 obtain ⟨Cf, Dz, H⟩ := H
 have A3 := Aside0.mk Dz
 clear Dz
 by_cases c4 : Cf = true
 ·subst c4
  rw [if_pos rfl] at H
  have H' := Aside0.mk H
  clear H
  go_enter Try.func28, Try.ntmps28
  go_wp2_with (first | ((with_reducible refine gate_dst (N := 2) rfl ?_); refine zx (N := 2) (cs := #[.slice A0_0 l0_0.length c0_0]) (t := 29) ?_; intro Bp hg w5 hbox hb; have Ae := Aside0.mk (hbox); have Dk := zg HB hg; have Dm := zg HB hg; replace HB := zs HB hb; clear hb hbox hg) | ((with_reducible refine gate_dst (N := 4) rfl ?_); refine zx (N := 4) (cs := #[.slice none 0 0]) (t := 29) ?_; intro Be hg w6 hbox hb; have Ag := Aside0.mk (hbox); have Dj := zg HB hg; have Dl := zg HB hg; replace HB := zs HB hb; have Ba := zl Ae hg; have Ay := zr Ae hg; replace Ae := zb Ae hb; clear hb hbox hg; have hnb7 := Ba.out; have hnc7 := Ay.out; obtain ⟨Cr, Cm⟩ := zc1 Ae) | ((with_reducible refine gate_callee (f := 13) rfl ?_); refine zG (some 11) Try.func13 #[.agg #[.slice A0_0 l0_0.length c0_0]] ?_; (with_reducible refine (spec_DiskOk.calls k _ _ l0_0 true _ ?side1 ?side2 A3.out).mono ?_); (case side1 => exact zI (Kd.C_below HR0_0.out HB.out)); (case side2 => exact Ce.out); rintro e w9 ⟨rfl, hb⟩; refine ⟨_, rfl, ?_⟩; replace Ae := zb Ae hb; replace Ag := zb Ag hb; replace HB := zs HB hb; clear hb) | ((with_reducible refine gate_dst (N := 6) rfl ?_); refine zx (N := 6) (cs := #[.slice none 0 0]) (t := 29) ?_; intro As hg w10 hbox hb; have Ad := Aside0.mk (hbox); have GW509 := zg HB hg; have GE509 := zg HB hg; replace HB := zs HB hb; have Ao := zl Ae hg; have Am := zr Ae hg; replace Ae := zb Ae hb; have Ar := zl Ag hg; have Aq := zr Ag hg; replace Ag := zb Ag hb; clear hb hbox hg; have hnb11 := Am.out; have hnc11 := Ao.out; have hnb12 := Aq.out; have hnc12 := Ar.out; obtain ⟨B2, B1⟩ := zc1 Ad))
  go_loopg [7] k (fun kq v7 w' => ∃ (Ab : Int) (Af : List (S45)) (Ai : Value), v7 = .int .i64 Ab ∧ Aside0 (spec_LoseDisk.l0 kq l1 Ab l0_0 Af = some (r1, r2)) ∧ Aside0 (kq ≤ k) ∧ Aside0 (Kd.R k45 45 w' w.heap.size (fun _ => True) Ai Af) ∧ Aside0 (w'.heap[Bp]? = some (.cells #[(.slice A0_0 l0_0.length c0_0)] 29 (0, 0))) ∧ Aside0 (w'.heap[Be]? = some (.cells #[(.slice none 0 0)] 29 (0, 0))) ∧ Aside0 (w'.heap[As]? = some (.cells #[Ai] 29 (0, 0))) ∧ Aside0 (Below w.heap.size w w'))
  case atStart => exact ⟨(0), (([] : List (S45))), (.slice none 0 0), zf, H', ⟨Nat.le_refl _⟩, ⟨by first | exact Kd.R_nil _ _ _ _ _ | exact Kd.N_nil _ _ _ _ _ | exact Kd.V_nil _ _ _ _ _ | exact Kd.Q_nil _ _ _ _ _ | exact Kd.S_nil _ _ _ _ _⟩, ⟨zkf Ae⟩, ⟨zkf Ag⟩, ⟨zj Ad⟩, ⟨zw HB⟩⟩
  case round =>
   clear H'
   try clear c1
   try clear c2
   try clear p2
   try clear c4
   try clear c7
   try clear D6
   try clear D5
   try clear D4
   try clear B2
   try clear Cr
   try clear B1
   try clear Cm
   obtain ⟨Ab, Af, Ai, rfl, HA, Bs, Aa, Ae, Ag, Ad, HB⟩ := hrel
   cases gk with
   | zero => exact absurd HA.out (by simp [spec_LoseDisk.l0])
   | succ k1 =>
    have H := HA.out
    clear HA
    simp only [spec_LoseDisk.l0] at H
    by_cases Ch : Ab < (l0_0.length : Int)
    ·rw [if_pos Ch] at H
     have B8 := decide_eq_true Ch
     clear Ch
     by_cases Dh : 0 ≤ Ab
     ·rw [if_pos Dh] at H
      have Dg := decide_eq_true Dh
      clear Dh
      have Ci := Aside0.mk H
      clear H
      have hnb17 := Ba.out
      have hnc17 := Ay.out
      have hnb18 := Ao.out
      have hnc18 := Am.out
      obtain ⟨Cv, Cq⟩ := zc1 Ae
      have B0 : 0 ≤ (Ab : Int) := of_decide_eq_true za
      have Bx : Ab < (l0_0.length : Int) := of_decide_eq_true za
      obtain ⟨Di, Dy, Bi, Bh, Bg⟩ := at_T45 HR0_0.out Ab B0 Bx
      cases Dy
      replace Bi := zU HB.out Bi
      replace Bh := zU HB.out Bh
      replace Bg := zU HB.out Bg
      replace B0 := eq_true B0
      replace Bx := eq_true Bx
      go_upto_if 30 with (first | ((with_reducible refine gate_dst (N := 8) rfl ?_); refine zx (N := 8) (cs := #[.string (⟨#[]⟩ : ByteArray), .string (⟨#[]⟩ : ByteArray), .int .i64 0]) (t := 45) ?_; intro Ah hg w20 hbox hb; replace Aa := Aside0.mk (Kd.R_below (Kd.R_elderB (zo Aa.out) Ah (Nat.le_of_eq hg.symm)) hb); have Ac := Aside0.mk (hbox); have Br := zg HB hg; have GE511 := zg HB hg; replace HB := zs HB hb; have Az := zl Ae hg; have Aw := zr Ae hg; replace Ae := zb Ae hb; have Ax := zl Ag hg; have Au := zr Ag hg; replace Ag := zb Ag hb; have Ak := zl Ad hg; have Aj := zr Ad hg; replace Ad := zb Ad hb; clear hb hbox hg; have hnb21 := Aw.out; have hnc21 := Az.out; have hnb22 := Au.out; have hnc22 := Ax.out; have hnb23 := Aj.out; have hnc23 := Ak.out; obtain ⟨Cu, Ct, Cs, Cp, Co, Cn⟩ := zc3 Ac))
      (try simp only [Act.put, zA, zB, zC])
      go_cut [9] (fun v9 wc => ∃ (kq : Nat) (Ap : Int), v9 = .int .i64 Ap ∧ Aside0 (spec_LoseDisk.j1 kq l1 Ab Ap l0_0 Af ((rd_T45 l0_0 Ab).f0) ((rd_T45 l0_0 Ab).f1) ((rd_T45 l0_0 Ab).f2) = some (r1, r2)) ∧ Aside0 (kq ≤ k1) ∧ Aside0 (Kd.R k45 45 wc w.heap.size (fun k_ => k_ ≠ Ah) Ai Af) ∧ Aside0 (wc.heap[Bp]? = some (.cells #[(.slice (some Di) l0_0.length c0_0)] 29 (0, 0))) ∧ Aside0 (wc.heap[Be]? = some (.cells #[(.slice none 0 0)] 29 (0, 0))) ∧ Aside0 (wc.heap[As]? = some (.cells #[Ai] 29 (0, 0))) ∧ Aside0 (wc.heap[Ah]? = some (.cells #[.string ((rd_T45 l0_0 Ab).f0), .string ((rd_T45 l0_0 Ab).f1), .int .i64 ((rd_T45 l0_0 Ab).f2)] 45 (0, 0))) ∧ Aside0 (Below w.heap.size w wc))
      case first =>
       have H := Ci.out
       clear Ci
       by_cases Cg : Ab < (l1.length : Int)
       ·rw [if_pos Cg] at H
        have Bf := decide_eq_true Cg
        clear Cg
        (first | rw [Bf] | (simp only [i64_w, i32_w]; rw [Bf]) | skip)
        have H' := Aside0.mk H
        clear H
        have Bz : 0 ≤ (Ab : Int) := of_decide_eq_true za
        have Bw : Ab < (l1.length : Int) := of_decide_eq_true za
        obtain ⟨Bq, Dx, Al⟩ := Kd.at_int HR1.out Ab Bz Bw
        cases Dx
        have Bd : Bq.block ≠ Ah := Nat.ne_of_lt (Nat.lt_of_lt_of_le (by have := World.block_lt_of_cell? _ _ Al; first | rwa [add_block] at this | exact this) Br.out)
        have Bc : Bq.block ≠ Ah := Nat.ne_of_lt (Nat.lt_of_lt_of_le (by have := World.block_lt_of_cell? _ _ Al; first | rwa [add_block] at this | exact this) Br.out)
        have Bb : Bq.block ≠ Ah := Nat.ne_of_lt (Nat.lt_of_lt_of_le (by have := World.block_lt_of_cell? _ _ Al; first | rwa [add_block] at this | exact this) Br.out)
        replace Al := zU HB.out Al
        replace Al := (cell_far (p := ⟨Ah, 0, none⟩) (by first | (rw [add_block]; exact Bd) | (show (Addr.add _ _).block ≠ _; rw [add_block]; exact Bd) | exact Bd) (.string ((rd_T45 l0_0 Ab).f0))).trans Al
        replace Al := (cell_far (p := ⟨Ah, 1, none⟩) (by first | (rw [add_block]; exact Bc) | (show (Addr.add _ _).block ≠ _; rw [add_block]; exact Bc) | exact Bc) (.string ((rd_T45 l0_0 Ab).f1))).trans Al
        replace Al := (cell_far (p := ⟨Ah, 2, none⟩) (by first | (rw [add_block]; exact Bb) | (show (Addr.add _ _).block ≠ _; rw [add_block]; exact Bb) | exact Bb) (.int .i64 ((rd_T45 l0_0 Ab).f2))).trans Al
        clear Bd
        clear Bc
        clear Bb
        replace Bz := eq_true Bz
        replace Bw := eq_true Bw
        go_wp2
        go_meet
        case rel => exact ⟨_, (rd l1 Ab), zf, H', ⟨by have := Bs.out; first | omega | exact Nat.le_refl _⟩, ⟨zo (Kd.R_mono (Kd.R_far (p := ⟨Ah, 2, none⟩) (Kd.R_far (p := ⟨Ah, 1, none⟩) (Kd.R_far (p := ⟨Ah, 0, none⟩) (Kd.R_mono Aa.out (fun k_ hk => (⟨hk, hk.2⟩ : _ ∧ k_ ≠ Ah))) (fun _ hk => hk.2) (.string ((rd_T45 l0_0 Ab).f0))) (fun _ hk => hk.2) (.string ((rd_T45 l0_0 Ab).f1))) (fun _ hk => hk.2) (.int .i64 ((rd_T45 l0_0 Ab).f2))) (fun _ hk => hk.1.2))⟩, ⟨zkf Ae⟩, ⟨zkf Ag⟩, ⟨zkf Ad⟩, ⟨zj Ac⟩, ⟨zw HB⟩⟩
       rw [if_neg Cg] at H
       have Bf := decide_eq_false Cg
       clear Cg
       (first | rw [Bf] | (simp only [i64_w, i32_w]; rw [Bf]) | skip)
       have H' := Aside0.mk H
       clear H
       go_wp2
       go_meet
       case rel => exact ⟨_, (0), zf, H', ⟨by have := Bs.out; first | omega | exact Nat.le_refl _⟩, ⟨zo (Kd.R_mono (Kd.R_far (p := ⟨Ah, 2, none⟩) (Kd.R_far (p := ⟨Ah, 1, none⟩) (Kd.R_far (p := ⟨Ah, 0, none⟩) (Kd.R_mono Aa.out (fun k_ hk => (⟨hk, hk.2⟩ : _ ∧ k_ ≠ Ah))) (fun _ hk => hk.2) (.string ((rd_T45 l0_0 Ab).f0))) (fun _ hk => hk.2) (.string ((rd_T45 l0_0 Ab).f1))) (fun _ hk => hk.2) (.int .i64 ((rd_T45 l0_0 Ab).f2))) (fun _ hk => hk.1.2))⟩, ⟨zkf Ae⟩, ⟨zkf Ag⟩, ⟨zkf Ad⟩, ⟨zj Ac⟩, ⟨zw HB⟩⟩
      case rest =>
       clear Ci
       try clear c1
       try clear c2
       try clear p2
       try clear c4
       try clear p5
       try clear q5
       try clear hx5
       try clear c7
       try clear D6
       try clear D5
       try clear D4
       try clear Ch
       try clear B8
       try clear Dh
       try clear Dg
       try clear c17
       try clear c18
       try clear c21
       try clear c22
       try clear c23
       try clear Cg
       try clear Bf
       try clear B2
       try clear Cv
       try clear Cu
       try clear Ct
       try clear Cs
       try clear Cr
       try clear B1
       try clear Cq
       try clear Cp
       try clear Co
       try clear Cn
       try clear Cm
       try clear Bi
       try clear Bh
       try clear Bg
       try clear Al
       try clear p2
       try clear B0
       try clear Bz
       try clear Bx
       try clear Bw
       obtain ⟨kq, Ap, rfl, HA, HJ15, Aa, Ae, Ag, Ad, Ac, HB⟩ := hcut
       cases kq with
       | zero => exact absurd HA.out (by simp [spec_LoseDisk.j1])
       | succ Bj =>
        have H := HA.out
        clear HA
        simp only [spec_LoseDisk.j1] at H
        by_cases Cl : Ap > (((rd_T45 l0_0 Ab).f1).size : Int)
        ·rw [if_pos Cl] at H
         have Df : decide ((((rd_T45 l0_0 Ab).f1).size : Int) < Ap) = true := decide_eq_true Cl
         clear Cl
         by_cases Ck : (((rd_T45 l0_0 Ab).f1).size : Int) < ((rd_T45 l0_0 Ab).f2)
         ·rw [if_pos Ck] at H
          have De := decide_eq_true Ck
          clear Ck
          by_cases Dd : 0 ≤ ((rd_T45 l0_0 Ab).f2)
          ·rw [if_pos Dd] at H
           have c28b0 := eq_true Dd
           have c28b1 := decide_eq_true Dd
           clear Dd
           by_cases Dc : ((rd_T45 l0_0 Ab).f2) ≤ (((rd_T45 l0_0 Ab).f1).size : Int)
           ·rw [if_pos Dc] at H
            have c29b0 := eq_true Dc
            have c29b1 := decide_eq_true Dc
            clear Dc
            by_cases Dv : Af.length < 3518437208883
            ·rw [if_pos Dv] at H
             have LMc30 := Aside0.mk Dv
             clear Dv
             obtain ⟨Bv, Bo⟩ : ∃ y_ : List (S45), y_ = (Af ++ [(⟨((rd_T45 l0_0 Ab).f0), ((rd_T45 l0_0 Ab).f1).extract 0 (((rd_T45 l0_0 Ab).f2) : Int).toNat, ((rd_T45 l0_0 Ab).f2)⟩ : S45)]) := ⟨_, rfl⟩
             replace H : (spec_LoseDisk.l0 Bj l1 (wrap64 (Ab + 1)) l0_0 Bv) = some (r1, r2) := zrw Bo H
             have Ny513 := Aside0.mk Bo
             clear Bo
             have H' := Aside0.mk H
             clear H
             have hnb31 := Aw.out
             have hnc31 := Az.out
             have hnb32 := Au.out
             have hnc32 := Ax.out
             have hnb33 := Aj.out
             have hnc33 := Ak.out
             obtain ⟨_, _, _, _, _, _⟩ := zc3 Ac
             try go_wp2
             replace Aa := zd3 Aa
             replace Ae := zd1 Ae
             replace Ag := zd1 Ag
             replace Ad := zd1 Ad
             replace Ac := zd1 Ac
             replace HB := zd2 HB
             refine start_ (n := 14) (S := fun w' => w'.cell? ⟨As, 0, none⟩ = some (Ai) ∧ w'.cell? ⟨Ah, 0, none⟩ = some (.string ((rd_T45 l0_0 Ab).f0)) ∧ w'.cell? ⟨Ah, 1, none⟩ = some (.string ((rd_T45 l0_0 Ab).f1)) ∧ w'.cell? ⟨Ah, 2, none⟩ = some (.int .i64 ((rd_T45 l0_0 Ab).f2))) (ds := [13]) q19_0 (by kernel_rfl) rfl rfl ⟨zv Ad, zv Ac, zv Ac, zv Ac⟩ (fun hHeld => ?_); refine with_tabW spec_LoseDisk.tab15 spec_LoseDisk.bits15 (fun HT_ HW_ => ?_)
             generalize wc.drew = w35 at Aa Ae Ag Ad Ac HB hHeld ⊢
             refine zP 0 (some 49) q19_1 HT_ ?_
             refine zP 2 (some 51) q19_2 HT_ ?_
             refine zP 4 (some 53) q19_3 HT_ ?_
             refine zP 6 (some 55) q19_4 HT_ ?_
             refine zP 8 (some 57) q19_5 HT_ ?_
             refine zT 1 (some 50) q19_6 HT_ HW_ hHeld ?_
             refine zT 3 (some 52) q19_7 HT_ HW_ hHeld ?_
             refine zT 5 (some 54) q19_8 HT_ HW_ hHeld ?_
             refine zP 7 (some 56) q19_9 HT_ ?_
             refine zP 9 (some 58) q19_10 HT_ ?_
             refine one_ (i := 10) (N := some 59) q19_11 rfl rfl (one_of HT_.out (by kernel_rfl)) (by decide) (fun K hK => ?_)
             refine value_ (w1 := ?_) (v := ?_) (by rfl) rfl ?_ ?_
             rotate_left 2
             ·go_simp
              constructor
              ·rfl
              rfl
             refine hK.out _ _ ⟨zva Ad, zva Ac, zva Ac, zva Ac⟩ (fun hHeld => ?_)
             clear hK K
             refine zN ?_
             refine one_ (i := 11) (N := some 60) q19_12 rfl rfl (one_of HT_.out (by kernel_rfl)) (by decide) (fun K hK => ?_)
             refine Kd.R_append_step k45 (w0 := w) w.heap.size (by rfl) (.tmp 50) (.tmp 59) 27 45 (.agg #[(.string ⟨#[]⟩), (.string ⟨#[]⟩), (.int .i64 0)]) 40 rfl Try.underlying27 info45 rfl (by decide) (by omega) Ai Af (⟨((rd_T45 l0_0 Ab).f0), ((rd_T45 l0_0 Ab).f1).extract 0 (((rd_T45 l0_0 Ab).f2) : Int).toNat, ((rd_T45 l0_0 Ab).f2)⟩ : S45) [.string ((rd_T45 l0_0 Ab).f0), .string (((rd_T45 l0_0 Ab).f1).extract 0 (((rd_T45 l0_0 Ab).f2) : Int).toNat), .int .i64 ((rd_T45 l0_0 Ab).f2)] (fun k_ => k_ ≠ Ah) (fun _ => False) rfl rfl ?aP (fun _ hk => hk.elim) ?aF ?aO ?aB ?aS ?aL ?_
             (case aP => exact k45_mkM _ _ _ (⟨((rd_T45 l0_0 Ab).f0), ((rd_T45 l0_0 Ab).f1).extract 0 (((rd_T45 l0_0 Ab).f2) : Int).toNat, ((rd_T45 l0_0 Ab).f2)⟩ : S45))
             (case aB => exact (zw HB))
             (case aF => exact (fun k_ hk => Kd.freshB (g := Ah) (o := .cells #[.string ((rd_T45 l0_0 Ab).f0), .string ((rd_T45 l0_0 Ab).f1), .int .i64 ((rd_T45 l0_0 Ab).f2)] 45 (0, 0)) (zk Ac) k_ hk))
             (case aO => exact (zo Aa.out))
             (case aS => exact (below_size (zw HB)))
             (case aL => have := LMc30.out; omega)
             intro v514 D3 ho hb hg hat
             rw [← Ny513.out] at ho
             replace Ae := zbg Ae hg Aa
             replace Ag := zbg Ag hg Aa
             replace Ad := zbg Ad hg Aa
             replace Ac := Aside0.mk (blk_grown (g := Ah) (o := .cells #[.string ((rd_T45 l0_0 Ab).f0), .string ((rd_T45 l0_0 Ab).f1), .int .i64 ((rd_T45 l0_0 Ab).f2)] 45 (0, 0)) (zk Ac) hg (Kd.R_away Aa.out (fun _ hk => hk)))
             replace HB := Aside0.mk (hb)
             have Cd := Aside0.mk (ho)
             clear Aa
             clear ho hb hg hat
             obtain ⟨Dr, C4, Cz⟩ := Kd.R_slice Cd.out
             (first | subst Cz | (injection Cz with f1_ f2_ f3_; have f4_ := f1_.symm; have f5_ := f3_.symm; clear f1_ f2_ f3_; subst f4_; subst f5_))
             refine hK.out _ _ ⟨zv Ad, zv Ac, zv Ac, zv Ac⟩ (fun hHeld => ?_)
             clear hK K
             refine zN ?_
             refine zP 12 (some 61) q19_13 HT_ ?_
             refine last_ (i := 13) (N := none) q19_14 rfl rfl (one_of HT_.out (by kernel_rfl)) (by decide) (fun K hK => ?_)
             have hs38 : D3.cell? ⟨As, 0, none⟩ = some (Ai) := zv Ad
             have hfs38 := blk_frozen Ad.out 0
             have hns38_0 := Ao.out
             have hns38_1 := Ar.out
             have hns38_3 := Aj.out
             have hms38_0 := Am.out
             have hms38_1 := Aq.out
             have hms38_3 := Ak.out
             refine skip_ (w1 := ?_) (by rfl) rfl ?_ ?_
             rotate_left
             ·go_simp
              rfl
             refine hK.out _ _ ?_
             clear hK K
             refine done_ (done_of HT_.out (by kernel_rfl)) ?_
             try go_wp2
             go_roundg Bj
             case measure => have := Bs.out; have := HJ15.out; omega
             case rel => exact ⟨(wrap64 (Ab + 1)), (Bv), (.slice Dr Bv.length C4), zf, H', ⟨by have := Bs.out; have := HJ15.out; omega⟩, ⟨zo (Kd.R_mono (Kd.R_far (p := ⟨As, 0, none⟩) (Kd.R_types Cd.out Ad.out (by decide)) (fun _ hk => hk.2) (.slice Dr Bv.length C4)) (fun _ hk => trivial))⟩, ⟨zkf Ae⟩, ⟨zkf Ag⟩, ⟨zj Ad⟩, ⟨zw HB⟩⟩
            rw [if_neg Dv] at H
            exact absurd H (by simp)
           rw [if_neg Dc] at H
           exact absurd H (by simp)
          rw [if_neg Dd] at H
          exact absurd H (by simp)
         rw [if_neg Ck] at H
         have De := decide_eq_false Ck
         clear Ck
         by_cases Db : 0 ≤ (((rd_T45 l0_0 Ab).f1).size : Int)
         ·rw [if_pos Db] at H
          have c39b0 := eq_true Db
          have c39b1 := decide_eq_true Db
          clear Db
          by_cases Da : (((rd_T45 l0_0 Ab).f1).size : Int) ≤ (((rd_T45 l0_0 Ab).f1).size : Int)
          ·rw [if_pos Da] at H
           have c40b0 := eq_true Da
           have c40b1 := decide_eq_true Da
           clear Da
           by_cases Du : Af.length < 3518437208883
           ·rw [if_pos Du] at H
            have LMc41 := Aside0.mk Du
            clear Du
            obtain ⟨Bk, Bn⟩ : ∃ y_ : List (S45), y_ = (Af ++ [(⟨((rd_T45 l0_0 Ab).f0), ((rd_T45 l0_0 Ab).f1).extract 0 ((((rd_T45 l0_0 Ab).f1).size : Int) : Int).toNat, (((rd_T45 l0_0 Ab).f1).size : Int)⟩ : S45)]) := ⟨_, rfl⟩
            replace H : (spec_LoseDisk.l0 Bj l1 (wrap64 (Ab + 1)) l0_0 Bk) = some (r1, r2) := zrw Bn H
            have Ny516 : Aside0 (Bk = (Af ++ [(⟨((rd_T45 l0_0 Ab).f0), ((rd_T45 l0_0 Ab).f1), (((rd_T45 l0_0 Ab).f1).size : Int)⟩ : S45)])) := ⟨Bn.trans (by rw [show ((rd_T45 l0_0 Ab).f1).extract 0 ((((rd_T45 l0_0 Ab).f1).size : Int) : Int).toNat = ((rd_T45 l0_0 Ab).f1) from by rw [Int.toNat_natCast]; exact ByteArray.extract_zero_size])⟩
            clear Bn
            have H' := Aside0.mk H
            clear H
            have hnb42 := Aw.out
            have hnc42 := Az.out
            have hnb43 := Au.out
            have hnc43 := Ax.out
            have hnb44 := Aj.out
            have hnc44 := Ak.out
            obtain ⟨_, _, _, _, _, _⟩ := zc3 Ac
            try go_wp2
            replace Aa := zd3 Aa
            replace Ae := zd1 Ae
            replace Ag := zd1 Ag
            replace Ad := zd1 Ad
            replace Ac := zd1 Ac
            replace HB := zd2 HB
            refine start_ (n := 14) (S := fun w' => w'.cell? ⟨As, 0, none⟩ = some (Ai) ∧ w'.cell? ⟨Ah, 0, none⟩ = some (.string ((rd_T45 l0_0 Ab).f0)) ∧ w'.cell? ⟨Ah, 1, none⟩ = some (.string ((rd_T45 l0_0 Ab).f1)) ∧ w'.cell? ⟨Ah, 2, none⟩ = some (.int .i64 ((rd_T45 l0_0 Ab).f2))) (ds := [13]) q19_0 (by kernel_rfl) rfl rfl ⟨zv Ad, zv Ac, zv Ac, zv Ac⟩ (fun hHeld => ?_); refine with_tabW spec_LoseDisk.tab15 spec_LoseDisk.bits15 (fun HT_ HW_ => ?_)
            generalize wc.drew = w46 at Aa Ae Ag Ad Ac HB hHeld ⊢
            refine zP 0 (some 49) q19_1 HT_ ?_
            refine zP 2 (some 51) q19_2 HT_ ?_
            refine zP 4 (some 53) q19_3 HT_ ?_
            refine zP 6 (some 55) q19_4 HT_ ?_
            refine zP 8 (some 57) q19_5 HT_ ?_
            refine zT 1 (some 50) q19_6 HT_ HW_ hHeld ?_
            refine zT 3 (some 52) q19_7 HT_ HW_ hHeld ?_
            refine zT 5 (some 54) q19_8 HT_ HW_ hHeld ?_
            refine zP 7 (some 56) q19_9 HT_ ?_
            refine zP 9 (some 58) q19_10 HT_ ?_
            refine one_ (i := 10) (N := some 59) q19_11 rfl rfl (one_of HT_.out (by kernel_rfl)) (by decide) (fun K hK => ?_)
            refine value_ (w1 := ?_) (v := ?_) (by rfl) rfl ?_ ?_
            rotate_left 2
            ·go_simp
             constructor
             ·rfl
             rfl
            refine hK.out _ _ ⟨zva Ad, zva Ac, zva Ac, zva Ac⟩ (fun hHeld => ?_)
            clear hK K
            refine zN ?_
            refine one_ (i := 11) (N := some 60) q19_12 rfl rfl (one_of HT_.out (by kernel_rfl)) (by decide) (fun K hK => ?_)
            refine Kd.R_append_step k45 (w0 := w) w.heap.size (by rfl) (.tmp 50) (.tmp 59) 27 45 (.agg #[(.string ⟨#[]⟩), (.string ⟨#[]⟩), (.int .i64 0)]) 40 rfl Try.underlying27 info45 rfl (by decide) (by omega) Ai Af (⟨((rd_T45 l0_0 Ab).f0), ((rd_T45 l0_0 Ab).f1), (((rd_T45 l0_0 Ab).f1).size : Int)⟩ : S45) [.string ((rd_T45 l0_0 Ab).f0), .string (((rd_T45 l0_0 Ab).f1)), .int .i64 (((rd_T45 l0_0 Ab).f1).size : Int)] (fun k_ => k_ ≠ Ah) (fun _ => False) rfl rfl ?aP (fun _ hk => hk.elim) ?aF ?aO ?aB ?aS ?aL ?_
            (case aP => exact k45_mkM _ _ _ (⟨((rd_T45 l0_0 Ab).f0), ((rd_T45 l0_0 Ab).f1), (((rd_T45 l0_0 Ab).f1).size : Int)⟩ : S45))
            (case aB => exact (zw HB))
            (case aF => exact (fun k_ hk => Kd.freshB (g := Ah) (o := .cells #[.string ((rd_T45 l0_0 Ab).f0), .string ((rd_T45 l0_0 Ab).f1), .int .i64 ((rd_T45 l0_0 Ab).f2)] 45 (0, 0)) (zk Ac) k_ hk))
            (case aO => exact (zo Aa.out))
            (case aS => exact (below_size (zw HB)))
            (case aL => have := LMc41.out; omega)
            intro v517 D2 ho hb hg hat
            rw [← Ny516.out] at ho
            replace Ae := zbg Ae hg Aa
            replace Ag := zbg Ag hg Aa
            replace Ad := zbg Ad hg Aa
            replace Ac := Aside0.mk (blk_grown (g := Ah) (o := .cells #[.string ((rd_T45 l0_0 Ab).f0), .string ((rd_T45 l0_0 Ab).f1), .int .i64 ((rd_T45 l0_0 Ab).f2)] 45 (0, 0)) (zk Ac) hg (Kd.R_away Aa.out (fun _ hk => hk)))
            replace HB := Aside0.mk (hb)
            have Cc := Aside0.mk (ho)
            clear Aa
            clear ho hb hg hat
            obtain ⟨Dq, C3, Cy⟩ := Kd.R_slice Cc.out
            (first | subst Cy | (injection Cy with f1_ f2_ f3_; have f4_ := f1_.symm; have f5_ := f3_.symm; clear f1_ f2_ f3_; subst f4_; subst f5_))
            refine hK.out _ _ ⟨zv Ad, zv Ac, zv Ac, zv Ac⟩ (fun hHeld => ?_)
            clear hK K
            refine zN ?_
            refine zP 12 (some 61) q19_13 HT_ ?_
            refine last_ (i := 13) (N := none) q19_14 rfl rfl (one_of HT_.out (by kernel_rfl)) (by decide) (fun K hK => ?_)
            have hs49 : D2.cell? ⟨As, 0, none⟩ = some (Ai) := zv Ad
            have hfs49 := blk_frozen Ad.out 0
            have hns49_0 := Ao.out
            have hns49_1 := Ar.out
            have hns49_3 := Aj.out
            have hms49_0 := Am.out
            have hms49_1 := Aq.out
            have hms49_3 := Ak.out
            refine skip_ (w1 := ?_) (by rfl) rfl ?_ ?_
            rotate_left
            ·go_simp
             rfl
            refine hK.out _ _ ?_
            clear hK K
            refine done_ (done_of HT_.out (by kernel_rfl)) ?_
            try go_wp2
            go_roundg Bj
            case measure => have := Bs.out; have := HJ15.out; omega
            case rel => exact ⟨(wrap64 (Ab + 1)), (Bk), (.slice Dq Bk.length C3), zf, H', ⟨by have := Bs.out; have := HJ15.out; omega⟩, ⟨zo (Kd.R_mono (Kd.R_far (p := ⟨As, 0, none⟩) (Kd.R_types Cc.out Ad.out (by decide)) (fun _ hk => hk.2) (.slice Dq Bk.length C3)) (fun _ hk => trivial))⟩, ⟨zkf Ae⟩, ⟨zkf Ag⟩, ⟨zj Ad⟩, ⟨zw HB⟩⟩
           rw [if_neg Du] at H
           exact absurd H (by simp)
          rw [if_neg Da] at H
          exact absurd H (by simp)
         rw [if_neg Db] at H
         exact absurd H (by simp)
        rw [if_neg Cl] at H
        have Df : decide ((((rd_T45 l0_0 Ab).f1).size : Int) < Ap) = false := decide_eq_false Cl
        clear Cl
        by_cases Cj : Ap < ((rd_T45 l0_0 Ab).f2)
        ·rw [if_pos Cj] at H
         have C9 := decide_eq_true Cj
         clear Cj
         by_cases C8 : 0 ≤ ((rd_T45 l0_0 Ab).f2)
         ·rw [if_pos C8] at H
          have c51b0 := eq_true C8
          have c51b1 := decide_eq_true C8
          clear C8
          by_cases C7 : ((rd_T45 l0_0 Ab).f2) ≤ (((rd_T45 l0_0 Ab).f1).size : Int)
          ·rw [if_pos C7] at H
           have c52b0 := eq_true C7
           have c52b1 := decide_eq_true C7
           clear C7
           by_cases Dt : Af.length < 3518437208883
           ·rw [if_pos Dt] at H
            have LMc53 := Aside0.mk Dt
            clear Dt
            obtain ⟨Bu, Bm⟩ : ∃ y_ : List (S45), y_ = (Af ++ [(⟨((rd_T45 l0_0 Ab).f0), ((rd_T45 l0_0 Ab).f1).extract 0 (((rd_T45 l0_0 Ab).f2) : Int).toNat, ((rd_T45 l0_0 Ab).f2)⟩ : S45)]) := ⟨_, rfl⟩
            replace H : (spec_LoseDisk.l0 Bj l1 (wrap64 (Ab + 1)) l0_0 Bu) = some (r1, r2) := zrw Bm H
            have Ny519 := Aside0.mk Bm
            clear Bm
            have H' := Aside0.mk H
            clear H
            have hnb54 := Aw.out
            have hnc54 := Az.out
            have hnb55 := Au.out
            have hnc55 := Ax.out
            have hnb56 := Aj.out
            have hnc56 := Ak.out
            obtain ⟨_, _, _, _, _, _⟩ := zc3 Ac
            try go_wp2
            replace Aa := zd3 Aa
            replace Ae := zd1 Ae
            replace Ag := zd1 Ag
            replace Ad := zd1 Ad
            replace Ac := zd1 Ac
            replace HB := zd2 HB
            refine start_ (n := 14) (S := fun w' => w'.cell? ⟨As, 0, none⟩ = some (Ai) ∧ w'.cell? ⟨Ah, 0, none⟩ = some (.string ((rd_T45 l0_0 Ab).f0)) ∧ w'.cell? ⟨Ah, 1, none⟩ = some (.string ((rd_T45 l0_0 Ab).f1)) ∧ w'.cell? ⟨Ah, 2, none⟩ = some (.int .i64 ((rd_T45 l0_0 Ab).f2))) (ds := [13]) q19_0 (by kernel_rfl) rfl rfl ⟨zv Ad, zv Ac, zv Ac, zv Ac⟩ (fun hHeld => ?_); refine with_tabW spec_LoseDisk.tab15 spec_LoseDisk.bits15 (fun HT_ HW_ => ?_)
            generalize wc.drew = w58 at Aa Ae Ag Ad Ac HB hHeld ⊢
            refine zP 0 (some 49) q19_1 HT_ ?_
            refine zP 2 (some 51) q19_2 HT_ ?_
            refine zP 4 (some 53) q19_3 HT_ ?_
            refine zP 6 (some 55) q19_4 HT_ ?_
            refine zP 8 (some 57) q19_5 HT_ ?_
            refine zT 1 (some 50) q19_6 HT_ HW_ hHeld ?_
            refine zT 3 (some 52) q19_7 HT_ HW_ hHeld ?_
            refine zT 5 (some 54) q19_8 HT_ HW_ hHeld ?_
            refine zP 7 (some 56) q19_9 HT_ ?_
            refine zP 9 (some 58) q19_10 HT_ ?_
            refine one_ (i := 10) (N := some 59) q19_11 rfl rfl (one_of HT_.out (by kernel_rfl)) (by decide) (fun K hK => ?_)
            refine value_ (w1 := ?_) (v := ?_) (by rfl) rfl ?_ ?_
            rotate_left 2
            ·go_simp
             constructor
             ·rfl
             rfl
            refine hK.out _ _ ⟨zva Ad, zva Ac, zva Ac, zva Ac⟩ (fun hHeld => ?_)
            clear hK K
            refine zN ?_
            refine one_ (i := 11) (N := some 60) q19_12 rfl rfl (one_of HT_.out (by kernel_rfl)) (by decide) (fun K hK => ?_)
            refine Kd.R_append_step k45 (w0 := w) w.heap.size (by rfl) (.tmp 50) (.tmp 59) 27 45 (.agg #[(.string ⟨#[]⟩), (.string ⟨#[]⟩), (.int .i64 0)]) 40 rfl Try.underlying27 info45 rfl (by decide) (by omega) Ai Af (⟨((rd_T45 l0_0 Ab).f0), ((rd_T45 l0_0 Ab).f1).extract 0 (((rd_T45 l0_0 Ab).f2) : Int).toNat, ((rd_T45 l0_0 Ab).f2)⟩ : S45) [.string ((rd_T45 l0_0 Ab).f0), .string (((rd_T45 l0_0 Ab).f1).extract 0 (((rd_T45 l0_0 Ab).f2) : Int).toNat), .int .i64 ((rd_T45 l0_0 Ab).f2)] (fun k_ => k_ ≠ Ah) (fun _ => False) rfl rfl ?aP (fun _ hk => hk.elim) ?aF ?aO ?aB ?aS ?aL ?_
            (case aP => exact k45_mkM _ _ _ (⟨((rd_T45 l0_0 Ab).f0), ((rd_T45 l0_0 Ab).f1).extract 0 (((rd_T45 l0_0 Ab).f2) : Int).toNat, ((rd_T45 l0_0 Ab).f2)⟩ : S45))
            (case aB => exact (zw HB))
            (case aF => exact (fun k_ hk => Kd.freshB (g := Ah) (o := .cells #[.string ((rd_T45 l0_0 Ab).f0), .string ((rd_T45 l0_0 Ab).f1), .int .i64 ((rd_T45 l0_0 Ab).f2)] 45 (0, 0)) (zk Ac) k_ hk))
            (case aO => exact (zo Aa.out))
            (case aS => exact (below_size (zw HB)))
            (case aL => have := LMc53.out; omega)
            intro v520 D1 ho hb hg hat
            rw [← Ny519.out] at ho
            replace Ae := zbg Ae hg Aa
            replace Ag := zbg Ag hg Aa
            replace Ad := zbg Ad hg Aa
            replace Ac := Aside0.mk (blk_grown (g := Ah) (o := .cells #[.string ((rd_T45 l0_0 Ab).f0), .string ((rd_T45 l0_0 Ab).f1), .int .i64 ((rd_T45 l0_0 Ab).f2)] 45 (0, 0)) (zk Ac) hg (Kd.R_away Aa.out (fun _ hk => hk)))
            replace HB := Aside0.mk (hb)
            have Cb := Aside0.mk (ho)
            clear Aa
            clear ho hb hg hat
            obtain ⟨Dp, C2, Cx⟩ := Kd.R_slice Cb.out
            (first | subst Cx | (injection Cx with f1_ f2_ f3_; have f4_ := f1_.symm; have f5_ := f3_.symm; clear f1_ f2_ f3_; subst f4_; subst f5_))
            refine hK.out _ _ ⟨zv Ad, zv Ac, zv Ac, zv Ac⟩ (fun hHeld => ?_)
            clear hK K
            refine zN ?_
            refine zP 12 (some 61) q19_13 HT_ ?_
            refine last_ (i := 13) (N := none) q19_14 rfl rfl (one_of HT_.out (by kernel_rfl)) (by decide) (fun K hK => ?_)
            have hs61 : D1.cell? ⟨As, 0, none⟩ = some (Ai) := zv Ad
            have hfs61 := blk_frozen Ad.out 0
            have hns61_0 := Ao.out
            have hns61_1 := Ar.out
            have hns61_3 := Aj.out
            have hms61_0 := Am.out
            have hms61_1 := Aq.out
            have hms61_3 := Ak.out
            refine skip_ (w1 := ?_) (by rfl) rfl ?_ ?_
            rotate_left
            ·go_simp
             rfl
            refine hK.out _ _ ?_
            clear hK K
            refine done_ (done_of HT_.out (by kernel_rfl)) ?_
            try go_wp2
            go_roundg Bj
            case measure => have := Bs.out; have := HJ15.out; omega
            case rel => exact ⟨(wrap64 (Ab + 1)), (Bu), (.slice Dp Bu.length C2), zf, H', ⟨by have := Bs.out; have := HJ15.out; omega⟩, ⟨zo (Kd.R_mono (Kd.R_far (p := ⟨As, 0, none⟩) (Kd.R_types Cb.out Ad.out (by decide)) (fun _ hk => hk.2) (.slice Dp Bu.length C2)) (fun _ hk => trivial))⟩, ⟨zkf Ae⟩, ⟨zkf Ag⟩, ⟨zj Ad⟩, ⟨zw HB⟩⟩
           rw [if_neg Dt] at H
           exact absurd H (by simp)
          rw [if_neg C7] at H
          exact absurd H (by simp)
         rw [if_neg C8] at H
         exact absurd H (by simp)
        rw [if_neg Cj] at H
        have C9 := decide_eq_false Cj
        clear Cj
        by_cases C6 : 0 ≤ Ap
        ·rw [if_pos C6] at H
         have c62b0 := eq_true C6
         have c62b1 := decide_eq_true C6
         clear C6
         by_cases C5 : Ap ≤ (((rd_T45 l0_0 Ab).f1).size : Int)
         ·rw [if_pos C5] at H
          have c63b0 := eq_true C5
          have c63b1 := decide_eq_true C5
          clear C5
          by_cases Ds : Af.length < 3518437208883
          ·rw [if_pos Ds] at H
           have LMc64 := Aside0.mk Ds
           clear Ds
           obtain ⟨Bt, Bl⟩ : ∃ y_ : List (S45), y_ = (Af ++ [(⟨((rd_T45 l0_0 Ab).f0), ((rd_T45 l0_0 Ab).f1).extract 0 (Ap : Int).toNat, Ap⟩ : S45)]) := ⟨_, rfl⟩
           replace H : (spec_LoseDisk.l0 Bj l1 (wrap64 (Ab + 1)) l0_0 Bt) = some (r1, r2) := zrw Bl H
           have Ny522 := Aside0.mk Bl
           clear Bl
           have H' := Aside0.mk H
           clear H
           have hnb65 := Aw.out
           have hnc65 := Az.out
           have hnb66 := Au.out
           have hnc66 := Ax.out
           have hnb67 := Aj.out
           have hnc67 := Ak.out
           obtain ⟨_, _, _, _, _, _⟩ := zc3 Ac
           try go_wp2
           replace Aa := zd3 Aa
           replace Ae := zd1 Ae
           replace Ag := zd1 Ag
           replace Ad := zd1 Ad
           replace Ac := zd1 Ac
           replace HB := zd2 HB
           refine start_ (n := 14) (S := fun w' => w'.cell? ⟨As, 0, none⟩ = some (Ai) ∧ w'.cell? ⟨Ah, 0, none⟩ = some (.string ((rd_T45 l0_0 Ab).f0)) ∧ w'.cell? ⟨Ah, 1, none⟩ = some (.string ((rd_T45 l0_0 Ab).f1)) ∧ w'.cell? ⟨Ah, 2, none⟩ = some (.int .i64 ((rd_T45 l0_0 Ab).f2))) (ds := [13]) q19_0 (by kernel_rfl) rfl rfl ⟨zv Ad, zv Ac, zv Ac, zv Ac⟩ (fun hHeld => ?_); refine with_tabW spec_LoseDisk.tab15 spec_LoseDisk.bits15 (fun HT_ HW_ => ?_)
           generalize wc.drew = w69 at Aa Ae Ag Ad Ac HB hHeld ⊢
           refine zP 0 (some 49) q19_1 HT_ ?_
           refine zP 2 (some 51) q19_2 HT_ ?_
           refine zP 4 (some 53) q19_3 HT_ ?_
           refine zP 6 (some 55) q19_4 HT_ ?_
           refine zP 8 (some 57) q19_5 HT_ ?_
           refine zT 1 (some 50) q19_6 HT_ HW_ hHeld ?_
           refine zT 3 (some 52) q19_7 HT_ HW_ hHeld ?_
           refine zT 5 (some 54) q19_8 HT_ HW_ hHeld ?_
           refine zP 7 (some 56) q19_9 HT_ ?_
           refine zP 9 (some 58) q19_10 HT_ ?_
           refine one_ (i := 10) (N := some 59) q19_11 rfl rfl (one_of HT_.out (by kernel_rfl)) (by decide) (fun K hK => ?_)
           refine value_ (w1 := ?_) (v := ?_) (by rfl) rfl ?_ ?_
           rotate_left 2
           ·go_simp
            constructor
            ·rfl
            rfl
           refine hK.out _ _ ⟨zva Ad, zva Ac, zva Ac, zva Ac⟩ (fun hHeld => ?_)
           clear hK K
           refine zN ?_
           refine one_ (i := 11) (N := some 60) q19_12 rfl rfl (one_of HT_.out (by kernel_rfl)) (by decide) (fun K hK => ?_)
           refine Kd.R_append_step k45 (w0 := w) w.heap.size (by rfl) (.tmp 50) (.tmp 59) 27 45 (.agg #[(.string ⟨#[]⟩), (.string ⟨#[]⟩), (.int .i64 0)]) 40 rfl Try.underlying27 info45 rfl (by decide) (by omega) Ai Af (⟨((rd_T45 l0_0 Ab).f0), ((rd_T45 l0_0 Ab).f1).extract 0 (Ap : Int).toNat, Ap⟩ : S45) [.string ((rd_T45 l0_0 Ab).f0), .string (((rd_T45 l0_0 Ab).f1).extract 0 (Ap : Int).toNat), .int .i64 Ap] (fun k_ => k_ ≠ Ah) (fun _ => False) rfl rfl ?aP (fun _ hk => hk.elim) ?aF ?aO ?aB ?aS ?aL ?_
           (case aP => exact k45_mkM _ _ _ (⟨((rd_T45 l0_0 Ab).f0), ((rd_T45 l0_0 Ab).f1).extract 0 (Ap : Int).toNat, Ap⟩ : S45))
           (case aB => exact (zw HB))
           (case aF => exact (fun k_ hk => Kd.freshB (g := Ah) (o := .cells #[.string ((rd_T45 l0_0 Ab).f0), .string ((rd_T45 l0_0 Ab).f1), .int .i64 ((rd_T45 l0_0 Ab).f2)] 45 (0, 0)) (zk Ac) k_ hk))
           (case aO => exact (zo Aa.out))
           (case aS => exact (below_size (zw HB)))
           (case aL => have := LMc64.out; omega)
           intro v523 D0 ho hb hg hat
           rw [← Ny522.out] at ho
           replace Ae := zbg Ae hg Aa
           replace Ag := zbg Ag hg Aa
           replace Ad := zbg Ad hg Aa
           replace Ac := Aside0.mk (blk_grown (g := Ah) (o := .cells #[.string ((rd_T45 l0_0 Ab).f0), .string ((rd_T45 l0_0 Ab).f1), .int .i64 ((rd_T45 l0_0 Ab).f2)] 45 (0, 0)) (zk Ac) hg (Kd.R_away Aa.out (fun _ hk => hk)))
           replace HB := Aside0.mk (hb)
           have Ca := Aside0.mk (ho)
           clear Aa
           clear ho hb hg hat
           obtain ⟨Do, C1, Cw⟩ := Kd.R_slice Ca.out
           (first | subst Cw | (injection Cw with f1_ f2_ f3_; have f4_ := f1_.symm; have f5_ := f3_.symm; clear f1_ f2_ f3_; subst f4_; subst f5_))
           refine hK.out _ _ ⟨zv Ad, zv Ac, zv Ac, zv Ac⟩ (fun hHeld => ?_)
           clear hK K
           refine zN ?_
           refine zP 12 (some 61) q19_13 HT_ ?_
           refine last_ (i := 13) (N := none) q19_14 rfl rfl (one_of HT_.out (by kernel_rfl)) (by decide) (fun K hK => ?_)
           have hs72 : D0.cell? ⟨As, 0, none⟩ = some (Ai) := zv Ad
           have hfs72 := blk_frozen Ad.out 0
           have hns72_0 := Ao.out
           have hns72_1 := Ar.out
           have hns72_3 := Aj.out
           have hms72_0 := Am.out
           have hms72_1 := Aq.out
           have hms72_3 := Ak.out
           refine skip_ (w1 := ?_) (by rfl) rfl ?_ ?_
           rotate_left
           ·go_simp
            rfl
           refine hK.out _ _ ?_
           clear hK K
           refine done_ (done_of HT_.out (by kernel_rfl)) ?_
           try go_wp2
           go_roundg Bj
           case measure => have := Bs.out; have := HJ15.out; omega
           case rel => exact ⟨(wrap64 (Ab + 1)), (Bt), (.slice Do Bt.length C1), zf, H', ⟨by have := Bs.out; have := HJ15.out; omega⟩, ⟨zo (Kd.R_mono (Kd.R_far (p := ⟨As, 0, none⟩) (Kd.R_types Ca.out Ad.out (by decide)) (fun _ hk => hk.2) (.slice Do Bt.length C1)) (fun _ hk => trivial))⟩, ⟨zkf Ae⟩, ⟨zkf Ag⟩, ⟨zj Ad⟩, ⟨zw HB⟩⟩
          rw [if_neg Ds] at H
          exact absurd H (by simp)
         rw [if_neg C5] at H
         exact absurd H (by simp)
        rw [if_neg C6] at H
        exact absurd H (by simp)
     rw [if_neg Dh] at H
     exact absurd H (by simp)
    rw [if_neg Ch] at H
    have B8 := decide_eq_false Ch
    clear Ch
    simp only [Option.some.injEq, Prod.mk.injEq] at H
    obtain ⟨rfl, rfl⟩ := H
    have hnb73 := Ba.out
    have hnc73 := Ay.out
    have hnb74 := Ao.out
    have hnc74 := Am.out
    obtain ⟨_, _⟩ := zc1 Ae
    have hnb76 := Aq.out
    have hnc76 := Ar.out
    obtain ⟨_, _⟩ := zc1 Ad
    obtain ⟨Dn, C0, Dw⟩ := Kd.R_slice Aa.out
    subst Dw
    obtain ⟨_, _⟩ := zc1 Ag
    go_wp2
    refine bodyPost_ret (results_ct rfl _ _ Be 29 #[.slice Dn Af.length C0] (0, 0) _ rfl (zj Ag) Try.underlying29 rfl (by kernel_rfl)) rfl ?_
    exact ⟨_, ze, zo (Kd.R_mono (Kd.R_far (p := ⟨Be, 0, none⟩) (Kd.R_types Aa.out Ag.out (by decide)) (fun _ hk => hk.2) (.slice Dn Af.length C0)) (fun _ hk => trivial)), zw HB⟩
 replace c4 := Bool.eq_false_iff.mpr c4
 subst c4
 rw [if_neg (show ¬ (false = true) by decide)] at H
 simp only [Option.some.injEq, Prod.mk.injEq] at H
 obtain ⟨rfl, rfl⟩ := H
 go_enter Try.func28, Try.ntmps28
 go_wp2_with (first | ((with_reducible refine gate_dst (N := 2) rfl ?_); refine zx (N := 2) (cs := #[.slice A0_0 l0_0.length c0_0]) (t := 29) ?_; intro Bp hg w80 hbox hb; have Ae := Aside0.mk (hbox); have Dk := zg HB hg; have Dm := zg HB hg; replace HB := zs HB hb; clear hb hbox hg) | ((with_reducible refine gate_dst (N := 4) rfl ?_); refine zx (N := 4) (cs := #[.slice none 0 0]) (t := 29) ?_; intro Be hg w81 hbox hb; have Ag := Aside0.mk (hbox); have Dj := zg HB hg; have Dl := zg HB hg; replace HB := zs HB hb; have Ba := zl Ae hg; have Ay := zr Ae hg; replace Ae := zb Ae hb; clear hb hbox hg; have hnb82 := Ba.out; have hnc82 := Ay.out; obtain ⟨_, _⟩ := zc1 Ae) | ((with_reducible refine gate_callee (f := 13) rfl ?_); refine zG (some 11) Try.func13 #[.agg #[.slice A0_0 l0_0.length c0_0]] ?_; (with_reducible refine (spec_DiskOk.calls k _ _ l0_0 false _ ?side1 ?side2 A3.out).mono ?_); (case side1 => exact zI (Kd.C_below HR0_0.out HB.out)); (case side2 => exact Ce.out); rintro e w84 ⟨rfl, hb⟩; refine ⟨_, rfl, ?_⟩; replace Ae := zb Ae hb; replace Ag := zb Ag hb; replace HB := zs HB hb; clear hb; obtain ⟨_, _⟩ := zc1 Ag))
 refine bodyPost_ret (results_ct rfl _ _ Be 29 #[.slice none 0 0] (0, 0) _ rfl (zj Ag) Try.underlying29 rfl (by kernel_rfl)) rfl ?_
 exact ⟨_, ze, by first | exact Kd.R_nil _ _ _ _ _ | exact Kd.N_nil _ _ _ _ _ | exact Kd.V_nil _ _ _ _ _ | exact Kd.Q_nil _ _ _ _ _ | exact Kd.S_nil _ _ _ _ _, zw HB⟩

end Go.Proofs.Ytdiecogmaiglaaa.PFnActs
