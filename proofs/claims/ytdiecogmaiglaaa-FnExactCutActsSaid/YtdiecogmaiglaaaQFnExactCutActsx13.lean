import Derived.Test.YtdiecogmaiglaaaQFnExactCutActsx0
import Derived.Test.YtdiecogmaiglaaaQFnExactCutActsx12
namespace Go.Proofs.Ytdiecogmaiglaaa.PFnExactCutActs
open Go.RowKit Go.Proofs.YtdiecogmaiglaaaW.PrintWords Go.Proofs.YtdiecogmaiglaaaW.PrintLast Go.Proofs.YtdiecogmaiglaaaW.PrintMore
attribute [local go_sem] max2_int min2_int max_two min_two max_three min_three max_four min_four   -- for this text's walks alone
set_option linter.unusedVariables false
set_option linter.unusedSimpArgs false

/-! ### spec_LoseDisk: function 28 -/
mutual
def spec_LoseDisk.l0 : Nat → List Int → Int → List (S45) → List (S45) → Option ((List (S45)) × Bool)
 | 0, _, _, _, _ => none
 | k + 1, x1, x7, x284000, x287000 => if x7 < (x284000.length : Int) then (if 0 ≤ x7 then (if x7 < (x1.length : Int) then (spec_LoseDisk.j1 k x1 x7 (rd x1 x7) x284000 x287000 ((rd_T45 x284000 x7).f0) ((rd_T45 x284000 x7).f1) ((rd_T45 x284000 x7).f2)) else (spec_LoseDisk.j1 k x1 x7 0 x284000 x287000 ((rd_T45 x284000 x7).f0) ((rd_T45 x284000 x7).f1) ((rd_T45 x284000 x7).f2))) else (none)) else (some (x287000, true))
def spec_LoseDisk.j1 : Nat → List Int → Int → Int → List (S45) → List (S45) → ByteArray → ByteArray → Int → Option ((List (S45)) × Bool)
 | 0, _, _, _, _, _, _, _, _ => none
 | k + 1, x1, x7, x9, x284000, x287000, x289000, x289001, x289002 => if x9 > (x289001.size : Int) then (if (x289001.size : Int) < x289002 then (if 0 ≤ x289002 then (if x289002 ≤ (x289001.size : Int) then (if x287000.length < 3518437208883 then (spec_LoseDisk.l0 k x1 (wrap64 (x7 + 1)) x284000 (x287000 ++ [(⟨x289000, x289001.extract 0 (x289002 : Int).toNat, x289002⟩ : S45)])) else (none)) else (none)) else (none)) else (if 0 ≤ (x289001.size : Int) then (if (x289001.size : Int) ≤ (x289001.size : Int) then (if x287000.length < 3518437208883 then (spec_LoseDisk.l0 k x1 (wrap64 (x7 + 1)) x284000 (x287000 ++ [(⟨x289000, x289001.extract 0 ((x289001.size : Int) : Int).toNat, (x289001.size : Int)⟩ : S45)])) else (none)) else (none)) else (none))) else (if x9 < x289002 then (if 0 ≤ x289002 then (if x289002 ≤ (x289001.size : Int) then (if x287000.length < 3518437208883 then (spec_LoseDisk.l0 k x1 (wrap64 (x7 + 1)) x284000 (x287000 ++ [(⟨x289000, x289001.extract 0 (x289002 : Int).toNat, x289002⟩ : S45)])) else (none)) else (none)) else (none)) else (if 0 ≤ x9 then (if x9 ≤ (x289001.size : Int) then (if x287000.length < 3518437208883 then (spec_LoseDisk.l0 k x1 (wrap64 (x7 + 1)) x284000 (x287000 ++ [(⟨x289000, x289001.extract 0 (x9 : Int).toNat, x9⟩ : S45)])) else (none)) else (none)) else (none)))
end
def spec_LoseDisk.f (k : Nat) (l0_0 : List (S45)) (l1 : List Int) : Option ((List (S45)) × Bool) := (spec_DiskOk.f k l0_0).bind fun t285 => (if t285 = true then (spec_LoseDisk.l0 k l1 0 l0_0 ([] : List (S45))) else (some (([] : List (S45)), false)))
theorem spec_LoseDisk.mono_l : ∀ k, (∀ y0 y1 y2 y3, LeO (spec_LoseDisk.l0 k y0 y1 y2 y3) (spec_LoseDisk.l0 (k + 1) y0 y1 y2 y3)) ∧ (∀ y0 y1 y2 y3 y4 y5 y6 y7, LeO (spec_LoseDisk.j1 k y0 y1 y2 y3 y4 y5 y6 y7) (spec_LoseDisk.j1 (k + 1) y0 y1 y2 y3 y4 y5 y6 y7))
 | 0 => ⟨fun _ _ _ _ r h => by simp [spec_LoseDisk.l0] at h, fun _ _ _ _ _ _ _ _ r h => by simp [spec_LoseDisk.j1] at h⟩
 | k + 1 => by
  obtain ⟨ih0, ih1⟩ := spec_LoseDisk.mono_l k
  refine ⟨?_, ?_⟩
  ·intro y0 y1 y2 y3
   unfold spec_LoseDisk.l0
   repeat' first
   | (with_reducible exact ih0 _ _ _ _)
   | (with_reducible exact ih1 _ _ _ _ _ _ _ _)
   | (with_reducible exact spec_DiskOk.mono _ _)
   | (with_reducible exact LeO.refl _)
   | (with_reducible exact LeO.none _)
   | (with_reducible refine LeO.ite ?_ ?_)
   | (with_reducible refine LeO.bind ?_ (fun _ => ?_))
   | exact ih0 _ _ _ _
   | exact ih1 _ _ _ _ _ _ _ _
   | exact spec_DiskOk.mono _ _
   | exact LeO.none _
   | refine LeO.ite ?_ ?_
   | refine LeO.bind ?_ (fun _ => ?_)
  intro y0 y1 y2 y3 y4 y5 y6 y7
  unfold spec_LoseDisk.j1
  repeat' first
  | (with_reducible exact ih0 _ _ _ _)
  | (with_reducible exact ih1 _ _ _ _ _ _ _ _)
  | (with_reducible exact spec_DiskOk.mono _ _)
  | (with_reducible exact LeO.refl _)
  | (with_reducible exact LeO.none _)
  | (with_reducible refine LeO.ite ?_ ?_)
  | (with_reducible refine LeO.bind ?_ (fun _ => ?_))
  | exact ih0 _ _ _ _
  | exact ih1 _ _ _ _ _ _ _ _
  | exact spec_DiskOk.mono _ _
  | exact LeO.none _
  | refine LeO.ite ?_ ?_
  | refine LeO.bind ?_ (fun _ => ?_)
theorem spec_LoseDisk.mono : ∀ a0 a1 k, LeO (spec_LoseDisk.f k a0 a1) (spec_LoseDisk.f (k + 1) a0 a1) := by
 intro a0 a1 k
 obtain ⟨ih0, ih1⟩ := spec_LoseDisk.mono_l k
 unfold spec_LoseDisk.f
 repeat' first
   | (with_reducible exact ih0 _ _ _ _)
   | (with_reducible exact ih1 _ _ _ _ _ _ _ _)
   | (with_reducible exact spec_DiskOk.mono _ _)
   | (with_reducible exact LeO.refl _)
   | (with_reducible exact LeO.none _)
   | (with_reducible refine LeO.ite ?_ ?_)
   | (with_reducible refine LeO.bind ?_ (fun _ => ?_))
   | exact ih0 _ _ _ _
   | exact ih1 _ _ _ _ _ _ _ _
   | exact spec_DiskOk.mono _ _
   | exact LeO.none _
   | refine LeO.ite ?_ ?_
   | refine LeO.bind ?_ (fun _ => ?_)
def spec_LoseDisk.T15 : Bool × List (List Nat × List Nat) := (true, [([], []), ([0], [0]), ([], []), ([2], [2]), ([], []), ([4], [4]), ([], []), ([5, 6], [5, 6]), ([], []), ([3, 7, 8], [3, 7, 8]), ([9], [9]), ([1, 10], [1, 10]), ([0, 1, 2, 3, 4, 5, 6, 7, 8, 9, 10, 11], []), ([12, 11, 11, 0, 1, 2, 3, 4, 5, 6, 7, 8, 9, 10, 11], [11, 12])])
def spec_LoseDisk.B15 : List Nat := [0, 1, 0, 4, 0, 16, 0, 112, 0, 508, 1020, 2047, 4095, 8191]
theorem spec_LoseDisk.tab15 : rtab .any (opsOf Try.f28 15) = spec_LoseDisk.T15 := by kernel_rfl
theorem spec_LoseDisk.bits15 : waitsOk spec_LoseDisk.T15.2 spec_LoseDisk.B15 = true := by kernel_rfl
abbrev q13_0 := #[o_,o_,o_,o_,o_,o_,o_,o_,o_,o_,o_,o_,o_,o_]
abbrev q13_1 := #[i_,o_,o_,o_,o_,o_,o_,o_,o_,o_,o_,o_,o_,o_]
abbrev q13_2 := #[i_,o_,i_,o_,o_,o_,o_,o_,o_,o_,o_,o_,o_,o_]
abbrev q13_3 := #[i_,o_,i_,o_,i_,o_,o_,o_,o_,o_,o_,o_,o_,o_]
abbrev q13_4 := #[i_,o_,i_,o_,i_,o_,i_,o_,o_,o_,o_,o_,o_,o_]
abbrev q13_5 := #[i_,o_,i_,o_,i_,o_,i_,o_,i_,o_,o_,o_,o_,o_]
abbrev q13_6 := #[i_,i_,i_,o_,i_,o_,i_,o_,i_,o_,o_,o_,o_,o_]
abbrev q13_7 := #[i_,i_,i_,i_,i_,o_,i_,o_,i_,o_,o_,o_,o_,o_]
abbrev q13_8 := #[i_,i_,i_,i_,i_,i_,i_,o_,i_,o_,o_,o_,o_,o_]
abbrev q13_9 := #[i_,i_,i_,i_,i_,i_,i_,i_,i_,o_,o_,o_,o_,o_]
abbrev q13_10 := #[i_,i_,i_,i_,i_,i_,i_,i_,i_,i_,o_,o_,o_,o_]
abbrev q13_11 := #[i_,i_,i_,i_,i_,i_,i_,i_,i_,i_,i_,o_,o_,o_]
abbrev q13_12 := #[i_,i_,i_,i_,i_,i_,i_,i_,i_,i_,i_,i_,o_,o_]
abbrev q13_13 := #[i_,i_,i_,i_,i_,i_,i_,i_,i_,i_,i_,i_,i_,o_]
abbrev q13_14 := #[i_,i_,i_,i_,i_,i_,i_,i_,i_,i_,i_,i_,i_,i_]
set_option maxHeartbeats 8000000 in
set_option maxRecDepth 100000 in
theorem spec_LoseDisk.calls (k : Nat) (A0_0 : Option Addr) (c0_0 : Nat) (l0_0 : List (S45)) (A1 : Option Addr) (c1 : Nat) (l1 : List Int) (r1 : List (S45)) (r2 : Bool) (w : World) (hr0_0 : Kd.C k45 w A0_0 l0_0.length l0_0) (hc0_0 : l0_0.length ≤ c0_0) (hr1 : Kd.C (Kd.int .i64) w A1 l1.length l1) (hc1 : l1.length ≤ c1) (h : spec_LoseDisk.f k l0_0 l1 = some (r1, r2)) :
  Calls Try.prog 28 #[.agg #[.slice A0_0 l0_0.length c0_0], .slice A1 l1.length c1] w fun e w' => ∃ v0_ : Value, e = .returned (.tuple #[.agg #[v0_], .bool r2]) ∧ Kd.R k45 45 w' w.heap.size (fun _ => True) v0_ r1 ∧ Below w.heap.size w w' := by
 have hu29 := Try.underlying29
 have hu45 := Try.underlying45
 have HR0_0 := Aside0.mk hr0_0
 have Cf := Aside0.mk hc0_0
 clear hr0_0 hc0_0
 have HR1 := Aside0.mk hr1
 have HC1 := Aside0.mk hc1
 clear hr1 hc1
 have HB := Aside0.mk (Below.refl w.heap.size w)
 have H : ((spec_DiskOk.f k l0_0).bind fun Cg => (if Cg = true then (spec_LoseDisk.l0 k l1 0 l0_0 ([] : List (S45))) else (some (([] : List (S45)), false)))) = some (r1, r2) := h
 clear h
 replace H := Option.bind_eq_some_iff.mp H
 obtain ⟨Cg, Dz, H⟩ := H
 have A3 := Aside0.mk Dz
 clear Dz
 by_cases c4 : Cg = true
 ·subst c4
  rw [if_pos rfl] at H
  have H' := Aside0.mk H
  clear H
  go_enter Try.func28, Try.ntmps28
  go_wp2_with (first | ((with_reducible refine gate_dst (N := 2) rfl ?_); refine zx (N := 2) (cs := #[.slice A0_0 l0_0.length c0_0]) (t := 29) ?_; intro Bf hg w5 hbox hb; have Ae := Aside0.mk (hbox); have Dk := zg HB hg; have Dm := zg HB hg; replace HB := zs HB hb; clear hb hbox hg) | ((with_reducible refine gate_dst (N := 4) rfl ?_); refine zx (N := 4) (cs := #[.slice none 0 0]) (t := 29) ?_; intro Bb hg w6 hbox hb; have Af := Aside0.mk (hbox); have Dj := zg HB hg; have Dl := zg HB hg; replace HB := zs HB hb; have Ba := zl Ae hg; have Ay := zr Ae hg; replace Ae := zb Ae hb; clear hb hbox hg; have hnb7 := Ba.out; have hnc7 := Ay.out; obtain ⟨Cs, Cn⟩ := zc1 Ae) | ((with_reducible refine gate_callee (f := 13) rfl ?_); refine zG (some 11) Try.func13 #[.agg #[.slice A0_0 l0_0.length c0_0]] ?_; (with_reducible refine (spec_DiskOk.calls k _ _ l0_0 true _ ?side1 ?side2 A3.out).mono ?_); (case side1 => exact zI (Kd.C_below HR0_0.out HB.out)); (case side2 => exact Cf.out); rintro e w9 ⟨rfl, hb⟩; refine ⟨_, rfl, ?_⟩; replace Ae := zb Ae hb; replace Af := zb Af hb; replace HB := zs HB hb; clear hb) | ((with_reducible refine gate_dst (N := 6) rfl ?_); refine zx (N := 6) (cs := #[.slice none 0 0]) (t := 29) ?_; intro Am hg w10 hbox hb; have Ad := Aside0.mk (hbox); have GW286 := zg HB hg; have GE286 := zg HB hg; replace HB := zs HB hb; have Ap := zl Ae hg; have Ao := zr Ae hg; replace Ae := zb Ae hb; have As := zl Af hg; have Ar := zr Af hg; replace Af := zb Af hb; clear hb hbox hg; have hnb11 := Ao.out; have hnc11 := Ap.out; have hnb12 := Ar.out; have hnc12 := As.out; obtain ⟨B8, B2⟩ := zc1 Ad))
  go_loopg [7] k (fun kq v7 w' => ∃ (Ab : Int) (Ag : List (S45)) (Ai : Value), v7 = .int .i64 Ab ∧ Aside0 (spec_LoseDisk.l0 kq l1 Ab l0_0 Ag = some (r1, r2)) ∧ Aside0 (kq ≤ k) ∧ Aside0 (Kd.R k45 45 w' w.heap.size (fun _ => True) Ai Ag) ∧ Aside0 (w'.heap[Bf]? = some (.cells #[(.slice A0_0 l0_0.length c0_0)] 29 (0, 0))) ∧ Aside0 (w'.heap[Bb]? = some (.cells #[(.slice none 0 0)] 29 (0, 0))) ∧ Aside0 (w'.heap[Am]? = some (.cells #[Ai] 29 (0, 0))) ∧ Aside0 (Below w.heap.size w w'))
  case atStart => exact ⟨(0), (([] : List (S45))), (.slice none 0 0), zf, H', ⟨Nat.le_refl _⟩, ⟨by first | exact Kd.R_nil _ _ _ _ _ | exact Kd.N_nil _ _ _ _ _ | exact Kd.V_nil _ _ _ _ _ | exact Kd.Q_nil _ _ _ _ _ | exact Kd.S_nil _ _ _ _ _⟩, ⟨zkf Ae⟩, ⟨zkf Af⟩, ⟨zj Ad⟩, ⟨zw HB⟩⟩
  case round =>
   clear H'
   try clear c1
   try clear c2
   try clear p2
   try clear c4
   try clear c7
   try clear D6
   try clear D5
   try clear D4
   try clear B8
   try clear Cs
   try clear B2
   try clear Cn
   obtain ⟨Ab, Ag, Ai, rfl, HA, Bt, Aa, Ae, Af, Ad, HB⟩ := hrel
   cases gk with
   | zero => exact absurd HA.out (by simp [spec_LoseDisk.l0])
   | succ k1 =>
    have H := HA.out
    clear HA
    simp only [spec_LoseDisk.l0] at H
    by_cases Ci : Ab < (l0_0.length : Int)
    ·rw [if_pos Ci] at H
     have Ca := decide_eq_true Ci
     clear Ci
     by_cases Di : 0 ≤ Ab
     ·rw [if_pos Di] at H
      have Dh := decide_eq_true Di
      clear Di
      have Cj := Aside0.mk H
      clear H
      have hnb17 := Ba.out
      have hnc17 := Ay.out
      have hnb18 := Ap.out
      have hnc18 := Ao.out
      obtain ⟨Cw, Cr⟩ := zc1 Ae
      have B1 : 0 ≤ (Ab : Int) := of_decide_eq_true za
      have Bz : Ab < (l0_0.length : Int) := of_decide_eq_true za
      obtain ⟨Bp, Dy, Bj, Bi, Bh⟩ := at_T45 HR0_0.out Ab B1 Bz
      cases Dy
      replace Bj := zU HB.out Bj
      replace Bi := zU HB.out Bi
      replace Bh := zU HB.out Bh
      replace B1 := eq_true B1
      replace Bz := eq_true Bz
      go_upto_if 30 with (first | ((with_reducible refine gate_dst (N := 8) rfl ?_); refine zx (N := 8) (cs := #[.string (⟨#[]⟩ : ByteArray), .string (⟨#[]⟩ : ByteArray), .int .i64 0]) (t := 45) ?_; intro Ah hg w20 hbox hb; replace Aa := Aside0.mk (Kd.R_below (Kd.R_elderB (zo Aa.out) Ah (Nat.le_of_eq hg.symm)) hb); have Ac := Aside0.mk (hbox); have Bs := zg HB hg; have GE288 := zg HB hg; replace HB := zs HB hb; have Az := zl Ae hg; have Aw := zr Ae hg; replace Ae := zb Ae hb; have Ax := zl Af hg; have Au := zr Af hg; replace Af := zb Af hb; have Ak := zl Ad hg; have Aj := zr Ad hg; replace Ad := zb Ad hb; clear hb hbox hg; have hnb21 := Aw.out; have hnc21 := Az.out; have hnb22 := Au.out; have hnc22 := Ax.out; have hnb23 := Aj.out; have hnc23 := Ak.out; obtain ⟨Cv, Cu, Ct, Cq, Cp, Co⟩ := zc3 Ac))
      (try simp only [Act.put, zA, zB, zC])
      go_cut [9] (fun v9 wc => ∃ (kq : Nat) (Aq : Int), v9 = .int .i64 Aq ∧ Aside0 (spec_LoseDisk.j1 kq l1 Ab Aq l0_0 Ag ((rd_T45 l0_0 Ab).f0) ((rd_T45 l0_0 Ab).f1) ((rd_T45 l0_0 Ab).f2) = some (r1, r2)) ∧ Aside0 (kq ≤ k1) ∧ Aside0 (Kd.R k45 45 wc w.heap.size (fun k_ => k_ ≠ Ah) Ai Ag) ∧ Aside0 (wc.heap[Bf]? = some (.cells #[(.slice (some Bp) l0_0.length c0_0)] 29 (0, 0))) ∧ Aside0 (wc.heap[Bb]? = some (.cells #[(.slice none 0 0)] 29 (0, 0))) ∧ Aside0 (wc.heap[Am]? = some (.cells #[Ai] 29 (0, 0))) ∧ Aside0 (wc.heap[Ah]? = some (.cells #[.string ((rd_T45 l0_0 Ab).f0), .string ((rd_T45 l0_0 Ab).f1), .int .i64 ((rd_T45 l0_0 Ab).f2)] 45 (0, 0))) ∧ Aside0 (Below w.heap.size w wc))
      case first =>
       have H := Cj.out
       clear Cj
       by_cases Ch : Ab < (l1.length : Int)
       ·rw [if_pos Ch] at H
        have Bg := decide_eq_true Ch
        clear Ch
        (first | rw [Bg] | (simp only [i64_w, i32_w]; rw [Bg]) | skip)
        have H' := Aside0.mk H
        clear H
        have B0 : 0 ≤ (Ab : Int) := of_decide_eq_true za
        have Bx : Ab < (l1.length : Int) := of_decide_eq_true za
        obtain ⟨Br, Dx, Al⟩ := Kd.at_int HR1.out Ab B0 Bx
        cases Dx
        have Be : Br.block ≠ Ah := Nat.ne_of_lt (Nat.lt_of_lt_of_le (by have := World.block_lt_of_cell? _ _ Al; first | rwa [add_block] at this | exact this) Bs.out)
        have Bd : Br.block ≠ Ah := Nat.ne_of_lt (Nat.lt_of_lt_of_le (by have := World.block_lt_of_cell? _ _ Al; first | rwa [add_block] at this | exact this) Bs.out)
        have Bc : Br.block ≠ Ah := Nat.ne_of_lt (Nat.lt_of_lt_of_le (by have := World.block_lt_of_cell? _ _ Al; first | rwa [add_block] at this | exact this) Bs.out)
        replace Al := zU HB.out Al
        replace Al := (cell_far (p := ⟨Ah, 0, none⟩) (by first | (rw [add_block]; exact Be) | (show (Addr.add _ _).block ≠ _; rw [add_block]; exact Be) | exact Be) (.string ((rd_T45 l0_0 Ab).f0))).trans Al
        replace Al := (cell_far (p := ⟨Ah, 1, none⟩) (by first | (rw [add_block]; exact Bd) | (show (Addr.add _ _).block ≠ _; rw [add_block]; exact Bd) | exact Bd) (.string ((rd_T45 l0_0 Ab).f1))).trans Al
        replace Al := (cell_far (p := ⟨Ah, 2, none⟩) (by first | (rw [add_block]; exact Bc) | (show (Addr.add _ _).block ≠ _; rw [add_block]; exact Bc) | exact Bc) (.int .i64 ((rd_T45 l0_0 Ab).f2))).trans Al
        clear Be
        clear Bd
        clear Bc
        replace B0 := eq_true B0
        replace Bx := eq_true Bx
        go_wp2
        go_meet
        case rel => exact ⟨_, (rd l1 Ab), zf, H', ⟨by have := Bt.out; first | omega | exact Nat.le_refl _⟩, ⟨zo (Kd.R_mono (Kd.R_far (p := ⟨Ah, 2, none⟩) (Kd.R_far (p := ⟨Ah, 1, none⟩) (Kd.R_far (p := ⟨Ah, 0, none⟩) (Kd.R_mono Aa.out (fun k_ hk => (⟨hk, hk.2⟩ : _ ∧ k_ ≠ Ah))) (fun _ hk => hk.2) (.string ((rd_T45 l0_0 Ab).f0))) (fun _ hk => hk.2) (.string ((rd_T45 l0_0 Ab).f1))) (fun _ hk => hk.2) (.int .i64 ((rd_T45 l0_0 Ab).f2))) (fun _ hk => hk.1.2))⟩, ⟨zkf Ae⟩, ⟨zkf Af⟩, ⟨zkf Ad⟩, ⟨zj Ac⟩, ⟨zw HB⟩⟩
       rw [if_neg Ch] at H
       have Bg := decide_eq_false Ch
       clear Ch
       (first | rw [Bg] | (simp only [i64_w, i32_w]; rw [Bg]) | skip)
       have H' := Aside0.mk H
       clear H
       go_wp2
       go_meet
       case rel => exact ⟨_, (0), zf, H', ⟨by have := Bt.out; first | omega | exact Nat.le_refl _⟩, ⟨zo (Kd.R_mono (Kd.R_far (p := ⟨Ah, 2, none⟩) (Kd.R_far (p := ⟨Ah, 1, none⟩) (Kd.R_far (p := ⟨Ah, 0, none⟩) (Kd.R_mono Aa.out (fun k_ hk => (⟨hk, hk.2⟩ : _ ∧ k_ ≠ Ah))) (fun _ hk => hk.2) (.string ((rd_T45 l0_0 Ab).f0))) (fun _ hk => hk.2) (.string ((rd_T45 l0_0 Ab).f1))) (fun _ hk => hk.2) (.int .i64 ((rd_T45 l0_0 Ab).f2))) (fun _ hk => hk.1.2))⟩, ⟨zkf Ae⟩, ⟨zkf Af⟩, ⟨zkf Ad⟩, ⟨zj Ac⟩, ⟨zw HB⟩⟩
      case rest =>
       clear Cj
       try clear c1
       try clear c2
       try clear p2
       try clear q2
       try clear hx2
       try clear c4
       try clear c7
       try clear D6
       try clear D5
       try clear D4
       try clear Ci
       try clear Ca
       try clear Di
       try clear Dh
       try clear c17
       try clear c18
       try clear c21
       try clear c22
       try clear c23
       try clear Ch
       try clear Bg
       try clear B8
       try clear Cw
       try clear Cv
       try clear Cu
       try clear Ct
       try clear Cs
       try clear B2
       try clear Cr
       try clear Cq
       try clear Cp
       try clear Co
       try clear Cn
       try clear Bj
       try clear Bi
       try clear Bh
       try clear Al
       try clear p2
       try clear B1
       try clear B0
       try clear Bz
       try clear Bx
       obtain ⟨kq, Aq, rfl, HA, HJ15, Aa, Ae, Af, Ad, Ac, HB⟩ := hcut
       cases kq with
       | zero => exact absurd HA.out (by simp [spec_LoseDisk.j1])
       | succ Bk =>
        have H := HA.out
        clear HA
        simp only [spec_LoseDisk.j1] at H
        by_cases Cm : Aq > (((rd_T45 l0_0 Ab).f1).size : Int)
        ·rw [if_pos Cm] at H
         have Dg : decide ((((rd_T45 l0_0 Ab).f1).size : Int) < Aq) = true := decide_eq_true Cm
         clear Cm
         by_cases Cl : (((rd_T45 l0_0 Ab).f1).size : Int) < ((rd_T45 l0_0 Ab).f2)
         ·rw [if_pos Cl] at H
          have Df := decide_eq_true Cl
          clear Cl
          by_cases De : 0 ≤ ((rd_T45 l0_0 Ab).f2)
          ·rw [if_pos De] at H
           have c28b0 := eq_true De
           have c28b1 := decide_eq_true De
           clear De
           by_cases Dd : ((rd_T45 l0_0 Ab).f2) ≤ (((rd_T45 l0_0 Ab).f1).size : Int)
           ·rw [if_pos Dd] at H
            have c29b0 := eq_true Dd
            have c29b1 := decide_eq_true Dd
            clear Dd
            by_cases Dv : Ag.length < 3518437208883
            ·rw [if_pos Dv] at H
             have LMc30 := Aside0.mk Dv
             clear Dv
             obtain ⟨Bw, Bo⟩ : ∃ y_ : List (S45), y_ = (Ag ++ [(⟨((rd_T45 l0_0 Ab).f0), ((rd_T45 l0_0 Ab).f1).extract 0 (((rd_T45 l0_0 Ab).f2) : Int).toNat, ((rd_T45 l0_0 Ab).f2)⟩ : S45)]) := ⟨_, rfl⟩
             replace H : (spec_LoseDisk.l0 Bk l1 (wrap64 (Ab + 1)) l0_0 Bw) = some (r1, r2) := by first | (rw [Bo]; with_reducible exact H) | (have H2_ := (Option.bind_some _ _).symm.trans H; rw [Bo]; with_reducible exact H2_) | (have H2_ := (Option.bind_some _ _).symm.trans H; with_reducible exact H2_) | with_reducible exact H | (rw [Bo]; exact H) | exact H
             have Ny290 := Aside0.mk Bo
             clear Bo
             have H' := Aside0.mk H
             clear H
             have hnb31 := Aw.out
             have hnc31 := Az.out
             have hnb32 := Au.out
             have hnc32 := Ax.out
             have hnb33 := Aj.out
             have hnc33 := Ak.out
             obtain ⟨_, _, _, _, _, _⟩ := zc3 Ac
             try go_wp2
             replace Aa := Aside0.mk (Kd.R_drew Aa.out)
             replace Ae := Aside0.mk (blk_drew Ae.out)
             replace Af := Aside0.mk (blk_drew Af.out)
             replace Ad := Aside0.mk (blk_drew Ad.out)
             replace Ac := Aside0.mk (blk_drew Ac.out)
             replace HB := Aside0.mk (below_drew1 HB.out)
             refine start_ (n := 14) (S := fun w' => w'.cell? ⟨Am, 0, none⟩ = some (Ai) ∧ w'.cell? ⟨Ah, 0, none⟩ = some (.string ((rd_T45 l0_0 Ab).f0)) ∧ w'.cell? ⟨Ah, 1, none⟩ = some (.string ((rd_T45 l0_0 Ab).f1)) ∧ w'.cell? ⟨Ah, 2, none⟩ = some (.int .i64 ((rd_T45 l0_0 Ab).f2))) (ds := [13]) q13_0 (by kernel_rfl) rfl rfl ⟨zv Ad, zv Ac, zv Ac, zv Ac⟩ (fun hHeld => ?_); refine with_tabW spec_LoseDisk.tab15 spec_LoseDisk.bits15 (fun HT_ HW_ => ?_)
             generalize wc.drew = w35 at Aa Ae Af Ad Ac HB hHeld ⊢
             refine zP 0 (some 49) q13_1 HT_ ?_
             refine zP 2 (some 51) q13_2 HT_ ?_
             refine zP 4 (some 53) q13_3 HT_ ?_
             refine zP 6 (some 55) q13_4 HT_ ?_
             refine zP 8 (some 57) q13_5 HT_ ?_
             refine zT 1 (some 50) q13_6 HT_ HW_ hHeld ?_
             refine zT 3 (some 52) q13_7 HT_ HW_ hHeld ?_
             refine zT 5 (some 54) q13_8 HT_ HW_ hHeld ?_
             refine zP 7 (some 56) q13_9 HT_ ?_
             refine zP 9 (some 58) q13_10 HT_ ?_
             refine one_ (i := 10) (N := some 59) q13_11 rfl rfl (one_of HT_.out (by kernel_rfl)) (by decide) (fun K hK => ?_)
             refine value_ (w1 := ?_) (v := ?_) (by rfl) rfl ?_ ?_
             rotate_left 2
             ·go_simp
              constructor
              ·rfl
              rfl
             refine hK.out _ _ ⟨(blk_cell (blk_alloc Ad.out _) 0).trans rfl, (blk_cell (blk_alloc Ac.out _) 0).trans rfl, (blk_cell (blk_alloc Ac.out _) 1).trans rfl, (blk_cell (blk_alloc Ac.out _) 2).trans rfl⟩ (fun hHeld => ?_)
             clear hK K
             refine zN ?_
             refine one_ (i := 11) (N := some 60) q13_12 rfl rfl (one_of HT_.out (by kernel_rfl)) (by decide) (fun K hK => ?_)
             refine Kd.R_append_step k45 (w0 := w) w.heap.size (by rfl) (.tmp 50) (.tmp 59) 27 45 (.agg #[(.string ⟨#[]⟩), (.string ⟨#[]⟩), (.int .i64 0)]) 40 rfl Try.underlying27 info45 rfl (by decide) (by omega) Ai Ag (⟨((rd_T45 l0_0 Ab).f0), ((rd_T45 l0_0 Ab).f1).extract 0 (((rd_T45 l0_0 Ab).f2) : Int).toNat, ((rd_T45 l0_0 Ab).f2)⟩ : S45) [.string ((rd_T45 l0_0 Ab).f0), .string (((rd_T45 l0_0 Ab).f1).extract 0 (((rd_T45 l0_0 Ab).f2) : Int).toNat), .int .i64 ((rd_T45 l0_0 Ab).f2)] (fun k_ => k_ ≠ Ah) (fun _ => False) rfl rfl ?aP (fun _ hk => hk.elim) ?aF ?aO ?aB ?aS ?aL ?_
             (case aP => exact k45_mkM _ _ _ (⟨((rd_T45 l0_0 Ab).f0), ((rd_T45 l0_0 Ab).f1).extract 0 (((rd_T45 l0_0 Ab).f2) : Int).toNat, ((rd_T45 l0_0 Ab).f2)⟩ : S45))
             (case aB => exact (zw HB))
             (case aF => exact (fun k_ hk => Kd.freshB (g := Ah) (o := .cells #[.string ((rd_T45 l0_0 Ab).f0), .string ((rd_T45 l0_0 Ab).f1), .int .i64 ((rd_T45 l0_0 Ab).f2)] 45 (0, 0)) (zk Ac) k_ hk))
             (case aO => exact (zo Aa.out))
             (case aS => exact (below_size (zw HB)))
             (case aL => have := LMc30.out; omega)
             intro v291 D3 ho hb hg hat
             rw [← Ny290.out] at ho
             replace Ae := Aside0.mk (blk_grown (g := Bf) (o := .cells #[.slice (some Bp) l0_0.length c0_0] 29 (0, 0)) (zk Ae) hg (Kd.R_ne Aa.out Ae.out (by decide)))
             replace Af := Aside0.mk (blk_grown (g := Bb) (o := .cells #[.slice none 0 0] 29 (0, 0)) (zk Af) hg (Kd.R_ne Aa.out Af.out (by decide)))
             replace Ad := Aside0.mk (blk_grown (g := Am) (o := .cells #[Ai] 29 (0, 0)) (zk Ad) hg (Kd.R_ne Aa.out Ad.out (by decide)))
             replace Ac := Aside0.mk (blk_grown (g := Ah) (o := .cells #[.string ((rd_T45 l0_0 Ab).f0), .string ((rd_T45 l0_0 Ab).f1), .int .i64 ((rd_T45 l0_0 Ab).f2)] 45 (0, 0)) (zk Ac) hg (Kd.R_away Aa.out (fun _ hk => hk)))
             replace HB := Aside0.mk (hb)
             have Ce := Aside0.mk (ho)
             clear Aa
             clear ho hb hg hat
             obtain ⟨Dr, C5, C0⟩ := Kd.R_slice Ce.out
             (first | subst C0 | (injection C0 with f1_ f2_ f3_; have f4_ := f1_.symm; have f5_ := f3_.symm; clear f1_ f2_ f3_; subst f4_; subst f5_))
             refine hK.out _ _ ⟨zv Ad, zv Ac, zv Ac, zv Ac⟩ (fun hHeld => ?_)
             clear hK K
             refine zN ?_
             refine zP 12 (some 61) q13_13 HT_ ?_
             refine last_ (i := 13) (N := none) q13_14 rfl rfl (one_of HT_.out (by kernel_rfl)) (by decide) (fun K hK => ?_)
             have hs38 : D3.cell? ⟨Am, 0, none⟩ = some (Ai) := zv Ad
             have hfs38 := blk_frozen Ad.out 0
             have hns38_0 := Ap.out
             have hns38_1 := As.out
             have hns38_3 := Aj.out
             have hms38_0 := Ao.out
             have hms38_1 := Ar.out
             have hms38_3 := Ak.out
             refine skip_ (w1 := ?_) (by rfl) rfl ?_ ?_
             rotate_left
             ·go_simp
              rfl
             refine hK.out _ _ ?_
             clear hK K
             refine done_ (done_of HT_.out (by kernel_rfl)) ?_
             try go_wp2
             go_roundg Bk
             case measure => have := Bt.out; have := HJ15.out; omega
             case rel => exact ⟨(wrap64 (Ab + 1)), (Bw), (.slice Dr Bw.length C5), zf, H', ⟨by have := Bt.out; have := HJ15.out; omega⟩, ⟨zo (Kd.R_mono (Kd.R_far (p := ⟨Am, 0, none⟩) (Kd.R_types Ce.out Ad.out (by decide)) (fun _ hk => hk.2) (.slice Dr Bw.length C5)) (fun _ hk => trivial))⟩, ⟨zkf Ae⟩, ⟨zkf Af⟩, ⟨zj Ad⟩, ⟨zw HB⟩⟩
            rw [if_neg Dv] at H
            exact absurd H (by simp)
           rw [if_neg Dd] at H
           exact absurd H (by simp)
          rw [if_neg De] at H
          exact absurd H (by simp)
         rw [if_neg Cl] at H
         have Df := decide_eq_false Cl
         clear Cl
         by_cases Dc : 0 ≤ (((rd_T45 l0_0 Ab).f1).size : Int)
         ·rw [if_pos Dc] at H
          have c39b0 := eq_true Dc
          have c39b1 := decide_eq_true Dc
          clear Dc
          by_cases Db : (((rd_T45 l0_0 Ab).f1).size : Int) ≤ (((rd_T45 l0_0 Ab).f1).size : Int)
          ·rw [if_pos Db] at H
           have c40b0 := eq_true Db
           have c40b1 := decide_eq_true Db
           clear Db
           by_cases Du : Ag.length < 3518437208883
           ·rw [if_pos Du] at H
            have LMc41 := Aside0.mk Du
            clear Du
            obtain ⟨Bq, Bn⟩ : ∃ y_ : List (S45), y_ = (Ag ++ [(⟨((rd_T45 l0_0 Ab).f0), ((rd_T45 l0_0 Ab).f1).extract 0 ((((rd_T45 l0_0 Ab).f1).size : Int) : Int).toNat, (((rd_T45 l0_0 Ab).f1).size : Int)⟩ : S45)]) := ⟨_, rfl⟩
            replace H : (spec_LoseDisk.l0 Bk l1 (wrap64 (Ab + 1)) l0_0 Bq) = some (r1, r2) := by first | (rw [Bn]; with_reducible exact H) | (have H2_ := (Option.bind_some _ _).symm.trans H; rw [Bn]; with_reducible exact H2_) | (have H2_ := (Option.bind_some _ _).symm.trans H; with_reducible exact H2_) | with_reducible exact H | (rw [Bn]; exact H) | exact H
            have Ny293 : Aside0 (Bq = (Ag ++ [(⟨((rd_T45 l0_0 Ab).f0), ((rd_T45 l0_0 Ab).f1), (((rd_T45 l0_0 Ab).f1).size : Int)⟩ : S45)])) := ⟨Bn.trans (by rw [show ((rd_T45 l0_0 Ab).f1).extract 0 ((((rd_T45 l0_0 Ab).f1).size : Int) : Int).toNat = ((rd_T45 l0_0 Ab).f1) from by rw [Int.toNat_natCast]; exact ByteArray.extract_zero_size])⟩
            clear Bn
            have H' := Aside0.mk H
            clear H
            have hnb42 := Aw.out
            have hnc42 := Az.out
            have hnb43 := Au.out
            have hnc43 := Ax.out
            have hnb44 := Aj.out
            have hnc44 := Ak.out
            obtain ⟨_, _, _, _, _, _⟩ := zc3 Ac
            try go_wp2
            replace Aa := Aside0.mk (Kd.R_drew Aa.out)
            replace Ae := Aside0.mk (blk_drew Ae.out)
            replace Af := Aside0.mk (blk_drew Af.out)
            replace Ad := Aside0.mk (blk_drew Ad.out)
            replace Ac := Aside0.mk (blk_drew Ac.out)
            replace HB := Aside0.mk (below_drew1 HB.out)
            refine start_ (n := 14) (S := fun w' => w'.cell? ⟨Am, 0, none⟩ = some (Ai) ∧ w'.cell? ⟨Ah, 0, none⟩ = some (.string ((rd_T45 l0_0 Ab).f0)) ∧ w'.cell? ⟨Ah, 1, none⟩ = some (.string ((rd_T45 l0_0 Ab).f1)) ∧ w'.cell? ⟨Ah, 2, none⟩ = some (.int .i64 ((rd_T45 l0_0 Ab).f2))) (ds := [13]) q13_0 (by kernel_rfl) rfl rfl ⟨zv Ad, zv Ac, zv Ac, zv Ac⟩ (fun hHeld => ?_); refine with_tabW spec_LoseDisk.tab15 spec_LoseDisk.bits15 (fun HT_ HW_ => ?_)
            generalize wc.drew = w46 at Aa Ae Af Ad Ac HB hHeld ⊢
            refine zP 0 (some 49) q13_1 HT_ ?_
            refine zP 2 (some 51) q13_2 HT_ ?_
            refine zP 4 (some 53) q13_3 HT_ ?_
            refine zP 6 (some 55) q13_4 HT_ ?_
            refine zP 8 (some 57) q13_5 HT_ ?_
            refine zT 1 (some 50) q13_6 HT_ HW_ hHeld ?_
            refine zT 3 (some 52) q13_7 HT_ HW_ hHeld ?_
            refine zT 5 (some 54) q13_8 HT_ HW_ hHeld ?_
            refine zP 7 (some 56) q13_9 HT_ ?_
            refine zP 9 (some 58) q13_10 HT_ ?_
            refine one_ (i := 10) (N := some 59) q13_11 rfl rfl (one_of HT_.out (by kernel_rfl)) (by decide) (fun K hK => ?_)
            refine value_ (w1 := ?_) (v := ?_) (by rfl) rfl ?_ ?_
            rotate_left 2
            ·go_simp
             constructor
             ·rfl
             rfl
            refine hK.out _ _ ⟨(blk_cell (blk_alloc Ad.out _) 0).trans rfl, (blk_cell (blk_alloc Ac.out _) 0).trans rfl, (blk_cell (blk_alloc Ac.out _) 1).trans rfl, (blk_cell (blk_alloc Ac.out _) 2).trans rfl⟩ (fun hHeld => ?_)
            clear hK K
            refine zN ?_
            refine one_ (i := 11) (N := some 60) q13_12 rfl rfl (one_of HT_.out (by kernel_rfl)) (by decide) (fun K hK => ?_)
            refine Kd.R_append_step k45 (w0 := w) w.heap.size (by rfl) (.tmp 50) (.tmp 59) 27 45 (.agg #[(.string ⟨#[]⟩), (.string ⟨#[]⟩), (.int .i64 0)]) 40 rfl Try.underlying27 info45 rfl (by decide) (by omega) Ai Ag (⟨((rd_T45 l0_0 Ab).f0), ((rd_T45 l0_0 Ab).f1), (((rd_T45 l0_0 Ab).f1).size : Int)⟩ : S45) [.string ((rd_T45 l0_0 Ab).f0), .string (((rd_T45 l0_0 Ab).f1)), .int .i64 (((rd_T45 l0_0 Ab).f1).size : Int)] (fun k_ => k_ ≠ Ah) (fun _ => False) rfl rfl ?aP (fun _ hk => hk.elim) ?aF ?aO ?aB ?aS ?aL ?_
            (case aP => exact k45_mkM _ _ _ (⟨((rd_T45 l0_0 Ab).f0), ((rd_T45 l0_0 Ab).f1), (((rd_T45 l0_0 Ab).f1).size : Int)⟩ : S45))
            (case aB => exact (zw HB))
            (case aF => exact (fun k_ hk => Kd.freshB (g := Ah) (o := .cells #[.string ((rd_T45 l0_0 Ab).f0), .string ((rd_T45 l0_0 Ab).f1), .int .i64 ((rd_T45 l0_0 Ab).f2)] 45 (0, 0)) (zk Ac) k_ hk))
            (case aO => exact (zo Aa.out))
            (case aS => exact (below_size (zw HB)))
            (case aL => have := LMc41.out; omega)
            intro v294 D2 ho hb hg hat
            rw [← Ny293.out] at ho
            replace Ae := Aside0.mk (blk_grown (g := Bf) (o := .cells #[.slice (some Bp) l0_0.length c0_0] 29 (0, 0)) (zk Ae) hg (Kd.R_ne Aa.out Ae.out (by decide)))
            replace Af := Aside0.mk (blk_grown (g := Bb) (o := .cells #[.slice none 0 0] 29 (0, 0)) (zk Af) hg (Kd.R_ne Aa.out Af.out (by decide)))
            replace Ad := Aside0.mk (blk_grown (g := Am) (o := .cells #[Ai] 29 (0, 0)) (zk Ad) hg (Kd.R_ne Aa.out Ad.out (by decide)))
            replace Ac := Aside0.mk (blk_grown (g := Ah) (o := .cells #[.string ((rd_T45 l0_0 Ab).f0), .string ((rd_T45 l0_0 Ab).f1), .int .i64 ((rd_T45 l0_0 Ab).f2)] 45 (0, 0)) (zk Ac) hg (Kd.R_away Aa.out (fun _ hk => hk)))
            replace HB := Aside0.mk (hb)
            have Cd := Aside0.mk (ho)
            clear Aa
            clear ho hb hg hat
            obtain ⟨Dq, C4, Cz⟩ := Kd.R_slice Cd.out
            (first | subst Cz | (injection Cz with f1_ f2_ f3_; have f4_ := f1_.symm; have f5_ := f3_.symm; clear f1_ f2_ f3_; subst f4_; subst f5_))
            refine hK.out _ _ ⟨zv Ad, zv Ac, zv Ac, zv Ac⟩ (fun hHeld => ?_)
            clear hK K
            refine zN ?_
            refine zP 12 (some 61) q13_13 HT_ ?_
            refine last_ (i := 13) (N := none) q13_14 rfl rfl (one_of HT_.out (by kernel_rfl)) (by decide) (fun K hK => ?_)
            have hs49 : D2.cell? ⟨Am, 0, none⟩ = some (Ai) := zv Ad
            have hfs49 := blk_frozen Ad.out 0
            have hns49_0 := Ap.out
            have hns49_1 := As.out
            have hns49_3 := Aj.out
            have hms49_0 := Ao.out
            have hms49_1 := Ar.out
            have hms49_3 := Ak.out
            refine skip_ (w1 := ?_) (by rfl) rfl ?_ ?_
            rotate_left
            ·go_simp
             rfl
            refine hK.out _ _ ?_
            clear hK K
            refine done_ (done_of HT_.out (by kernel_rfl)) ?_
            try go_wp2
            go_roundg Bk
            case measure => have := Bt.out; have := HJ15.out; omega
            case rel => exact ⟨(wrap64 (Ab + 1)), (Bq), (.slice Dq Bq.length C4), zf, H', ⟨by have := Bt.out; have := HJ15.out; omega⟩, ⟨zo (Kd.R_mono (Kd.R_far (p := ⟨Am, 0, none⟩) (Kd.R_types Cd.out Ad.out (by decide)) (fun _ hk => hk.2) (.slice Dq Bq.length C4)) (fun _ hk => trivial))⟩, ⟨zkf Ae⟩, ⟨zkf Af⟩, ⟨zj Ad⟩, ⟨zw HB⟩⟩
           rw [if_neg Du] at H
           exact absurd H (by simp)
          rw [if_neg Db] at H
          exact absurd H (by simp)
         rw [if_neg Dc] at H
         exact absurd H (by simp)
        rw [if_neg Cm] at H
        have Dg : decide ((((rd_T45 l0_0 Ab).f1).size : Int) < Aq) = false := decide_eq_false Cm
        clear Cm
        by_cases Ck : Aq < ((rd_T45 l0_0 Ab).f2)
        ·rw [if_pos Ck] at H
         have Da := decide_eq_true Ck
         clear Ck
         by_cases C9 : 0 ≤ ((rd_T45 l0_0 Ab).f2)
         ·rw [if_pos C9] at H
          have c51b0 := eq_true C9
          have c51b1 := decide_eq_true C9
          clear C9
          by_cases C8 : ((rd_T45 l0_0 Ab).f2) ≤ (((rd_T45 l0_0 Ab).f1).size : Int)
          ·rw [if_pos C8] at H
           have c52b0 := eq_true C8
           have c52b1 := decide_eq_true C8
           clear C8
           by_cases Dt : Ag.length < 3518437208883
           ·rw [if_pos Dt] at H
            have LMc53 := Aside0.mk Dt
            clear Dt
            obtain ⟨Bv, Bm⟩ : ∃ y_ : List (S45), y_ = (Ag ++ [(⟨((rd_T45 l0_0 Ab).f0), ((rd_T45 l0_0 Ab).f1).extract 0 (((rd_T45 l0_0 Ab).f2) : Int).toNat, ((rd_T45 l0_0 Ab).f2)⟩ : S45)]) := ⟨_, rfl⟩
            replace H : (spec_LoseDisk.l0 Bk l1 (wrap64 (Ab + 1)) l0_0 Bv) = some (r1, r2) := by first | (rw [Bm]; with_reducible exact H) | (have H2_ := (Option.bind_some _ _).symm.trans H; rw [Bm]; with_reducible exact H2_) | (have H2_ := (Option.bind_some _ _).symm.trans H; with_reducible exact H2_) | with_reducible exact H | (rw [Bm]; exact H) | exact H
            have Ny296 := Aside0.mk Bm
            clear Bm
            have H' := Aside0.mk H
            clear H
            have hnb54 := Aw.out
            have hnc54 := Az.out
            have hnb55 := Au.out
            have hnc55 := Ax.out
            have hnb56 := Aj.out
            have hnc56 := Ak.out
            obtain ⟨_, _, _, _, _, _⟩ := zc3 Ac
            try go_wp2
            replace Aa := Aside0.mk (Kd.R_drew Aa.out)
            replace Ae := Aside0.mk (blk_drew Ae.out)
            replace Af := Aside0.mk (blk_drew Af.out)
            replace Ad := Aside0.mk (blk_drew Ad.out)
            replace Ac := Aside0.mk (blk_drew Ac.out)
            replace HB := Aside0.mk (below_drew1 HB.out)
            refine start_ (n := 14) (S := fun w' => w'.cell? ⟨Am, 0, none⟩ = some (Ai) ∧ w'.cell? ⟨Ah, 0, none⟩ = some (.string ((rd_T45 l0_0 Ab).f0)) ∧ w'.cell? ⟨Ah, 1, none⟩ = some (.string ((rd_T45 l0_0 Ab).f1)) ∧ w'.cell? ⟨Ah, 2, none⟩ = some (.int .i64 ((rd_T45 l0_0 Ab).f2))) (ds := [13]) q13_0 (by kernel_rfl) rfl rfl ⟨zv Ad, zv Ac, zv Ac, zv Ac⟩ (fun hHeld => ?_); refine with_tabW spec_LoseDisk.tab15 spec_LoseDisk.bits15 (fun HT_ HW_ => ?_)
            generalize wc.drew = w58 at Aa Ae Af Ad Ac HB hHeld ⊢
            refine zP 0 (some 49) q13_1 HT_ ?_
            refine zP 2 (some 51) q13_2 HT_ ?_
            refine zP 4 (some 53) q13_3 HT_ ?_
            refine zP 6 (some 55) q13_4 HT_ ?_
            refine zP 8 (some 57) q13_5 HT_ ?_
            refine zT 1 (some 50) q13_6 HT_ HW_ hHeld ?_
            refine zT 3 (some 52) q13_7 HT_ HW_ hHeld ?_
            refine zT 5 (some 54) q13_8 HT_ HW_ hHeld ?_
            refine zP 7 (some 56) q13_9 HT_ ?_
            refine zP 9 (some 58) q13_10 HT_ ?_
            refine one_ (i := 10) (N := some 59) q13_11 rfl rfl (one_of HT_.out (by kernel_rfl)) (by decide) (fun K hK => ?_)
            refine value_ (w1 := ?_) (v := ?_) (by rfl) rfl ?_ ?_
            rotate_left 2
            ·go_simp
             constructor
             ·rfl
             rfl
            refine hK.out _ _ ⟨(blk_cell (blk_alloc Ad.out _) 0).trans rfl, (blk_cell (blk_alloc Ac.out _) 0).trans rfl, (blk_cell (blk_alloc Ac.out _) 1).trans rfl, (blk_cell (blk_alloc Ac.out _) 2).trans rfl⟩ (fun hHeld => ?_)
            clear hK K
            refine zN ?_
            refine one_ (i := 11) (N := some 60) q13_12 rfl rfl (one_of HT_.out (by kernel_rfl)) (by decide) (fun K hK => ?_)
            refine Kd.R_append_step k45 (w0 := w) w.heap.size (by rfl) (.tmp 50) (.tmp 59) 27 45 (.agg #[(.string ⟨#[]⟩), (.string ⟨#[]⟩), (.int .i64 0)]) 40 rfl Try.underlying27 info45 rfl (by decide) (by omega) Ai Ag (⟨((rd_T45 l0_0 Ab).f0), ((rd_T45 l0_0 Ab).f1).extract 0 (((rd_T45 l0_0 Ab).f2) : Int).toNat, ((rd_T45 l0_0 Ab).f2)⟩ : S45) [.string ((rd_T45 l0_0 Ab).f0), .string (((rd_T45 l0_0 Ab).f1).extract 0 (((rd_T45 l0_0 Ab).f2) : Int).toNat), .int .i64 ((rd_T45 l0_0 Ab).f2)] (fun k_ => k_ ≠ Ah) (fun _ => False) rfl rfl ?aP (fun _ hk => hk.elim) ?aF ?aO ?aB ?aS ?aL ?_
            (case aP => exact k45_mkM _ _ _ (⟨((rd_T45 l0_0 Ab).f0), ((rd_T45 l0_0 Ab).f1).extract 0 (((rd_T45 l0_0 Ab).f2) : Int).toNat, ((rd_T45 l0_0 Ab).f2)⟩ : S45))
            (case aB => exact (zw HB))
            (case aF => exact (fun k_ hk => Kd.freshB (g := Ah) (o := .cells #[.string ((rd_T45 l0_0 Ab).f0), .string ((rd_T45 l0_0 Ab).f1), .int .i64 ((rd_T45 l0_0 Ab).f2)] 45 (0, 0)) (zk Ac) k_ hk))
            (case aO => exact (zo Aa.out))
            (case aS => exact (below_size (zw HB)))
            (case aL => have := LMc53.out; omega)
            intro v297 D1 ho hb hg hat
            rw [← Ny296.out] at ho
            replace Ae := Aside0.mk (blk_grown (g := Bf) (o := .cells #[.slice (some Bp) l0_0.length c0_0] 29 (0, 0)) (zk Ae) hg (Kd.R_ne Aa.out Ae.out (by decide)))
            replace Af := Aside0.mk (blk_grown (g := Bb) (o := .cells #[.slice none 0 0] 29 (0, 0)) (zk Af) hg (Kd.R_ne Aa.out Af.out (by decide)))
            replace Ad := Aside0.mk (blk_grown (g := Am) (o := .cells #[Ai] 29 (0, 0)) (zk Ad) hg (Kd.R_ne Aa.out Ad.out (by decide)))
            replace Ac := Aside0.mk (blk_grown (g := Ah) (o := .cells #[.string ((rd_T45 l0_0 Ab).f0), .string ((rd_T45 l0_0 Ab).f1), .int .i64 ((rd_T45 l0_0 Ab).f2)] 45 (0, 0)) (zk Ac) hg (Kd.R_away Aa.out (fun _ hk => hk)))
            replace HB := Aside0.mk (hb)
            have Cc := Aside0.mk (ho)
            clear Aa
            clear ho hb hg hat
            obtain ⟨Dp, C3, Cy⟩ := Kd.R_slice Cc.out
            (first | subst Cy | (injection Cy with f1_ f2_ f3_; have f4_ := f1_.symm; have f5_ := f3_.symm; clear f1_ f2_ f3_; subst f4_; subst f5_))
            refine hK.out _ _ ⟨zv Ad, zv Ac, zv Ac, zv Ac⟩ (fun hHeld => ?_)
            clear hK K
            refine zN ?_
            refine zP 12 (some 61) q13_13 HT_ ?_
            refine last_ (i := 13) (N := none) q13_14 rfl rfl (one_of HT_.out (by kernel_rfl)) (by decide) (fun K hK => ?_)
            have hs61 : D1.cell? ⟨Am, 0, none⟩ = some (Ai) := zv Ad
            have hfs61 := blk_frozen Ad.out 0
            have hns61_0 := Ap.out
            have hns61_1 := As.out
            have hns61_3 := Aj.out
            have hms61_0 := Ao.out
            have hms61_1 := Ar.out
            have hms61_3 := Ak.out
            refine skip_ (w1 := ?_) (by rfl) rfl ?_ ?_
            rotate_left
            ·go_simp
             rfl
            refine hK.out _ _ ?_
            clear hK K
            refine done_ (done_of HT_.out (by kernel_rfl)) ?_
            try go_wp2
            go_roundg Bk
            case measure => have := Bt.out; have := HJ15.out; omega
            case rel => exact ⟨(wrap64 (Ab + 1)), (Bv), (.slice Dp Bv.length C3), zf, H', ⟨by have := Bt.out; have := HJ15.out; omega⟩, ⟨zo (Kd.R_mono (Kd.R_far (p := ⟨Am, 0, none⟩) (Kd.R_types Cc.out Ad.out (by decide)) (fun _ hk => hk.2) (.slice Dp Bv.length C3)) (fun _ hk => trivial))⟩, ⟨zkf Ae⟩, ⟨zkf Af⟩, ⟨zj Ad⟩, ⟨zw HB⟩⟩
           rw [if_neg Dt] at H
           exact absurd H (by simp)
          rw [if_neg C8] at H
          exact absurd H (by simp)
         rw [if_neg C9] at H
         exact absurd H (by simp)
        rw [if_neg Ck] at H
        have Da := decide_eq_false Ck
        clear Ck
        by_cases C7 : 0 ≤ Aq
        ·rw [if_pos C7] at H
         have c62b0 := eq_true C7
         have c62b1 := decide_eq_true C7
         clear C7
         by_cases C6 : Aq ≤ (((rd_T45 l0_0 Ab).f1).size : Int)
         ·rw [if_pos C6] at H
          have c63b0 := eq_true C6
          have c63b1 := decide_eq_true C6
          clear C6
          by_cases Ds : Ag.length < 3518437208883
          ·rw [if_pos Ds] at H
           have LMc64 := Aside0.mk Ds
           clear Ds
           obtain ⟨Bu, Bl⟩ : ∃ y_ : List (S45), y_ = (Ag ++ [(⟨((rd_T45 l0_0 Ab).f0), ((rd_T45 l0_0 Ab).f1).extract 0 (Aq : Int).toNat, Aq⟩ : S45)]) := ⟨_, rfl⟩
           replace H : (spec_LoseDisk.l0 Bk l1 (wrap64 (Ab + 1)) l0_0 Bu) = some (r1, r2) := by first | (rw [Bl]; with_reducible exact H) | (have H2_ := (Option.bind_some _ _).symm.trans H; rw [Bl]; with_reducible exact H2_) | (have H2_ := (Option.bind_some _ _).symm.trans H; with_reducible exact H2_) | with_reducible exact H | (rw [Bl]; exact H) | exact H
           have Ny299 := Aside0.mk Bl
           clear Bl
           have H' := Aside0.mk H
           clear H
           have hnb65 := Aw.out
           have hnc65 := Az.out
           have hnb66 := Au.out
           have hnc66 := Ax.out
           have hnb67 := Aj.out
           have hnc67 := Ak.out
           obtain ⟨_, _, _, _, _, _⟩ := zc3 Ac
           try go_wp2
           replace Aa := Aside0.mk (Kd.R_drew Aa.out)
           replace Ae := Aside0.mk (blk_drew Ae.out)
           replace Af := Aside0.mk (blk_drew Af.out)
           replace Ad := Aside0.mk (blk_drew Ad.out)
           replace Ac := Aside0.mk (blk_drew Ac.out)
           replace HB := Aside0.mk (below_drew1 HB.out)
           refine start_ (n := 14) (S := fun w' => w'.cell? ⟨Am, 0, none⟩ = some (Ai) ∧ w'.cell? ⟨Ah, 0, none⟩ = some (.string ((rd_T45 l0_0 Ab).f0)) ∧ w'.cell? ⟨Ah, 1, none⟩ = some (.string ((rd_T45 l0_0 Ab).f1)) ∧ w'.cell? ⟨Ah, 2, none⟩ = some (.int .i64 ((rd_T45 l0_0 Ab).f2))) (ds := [13]) q13_0 (by kernel_rfl) rfl rfl ⟨zv Ad, zv Ac, zv Ac, zv Ac⟩ (fun hHeld => ?_); refine with_tabW spec_LoseDisk.tab15 spec_LoseDisk.bits15 (fun HT_ HW_ => ?_)
           generalize wc.drew = w69 at Aa Ae Af Ad Ac HB hHeld ⊢
           refine zP 0 (some 49) q13_1 HT_ ?_
           refine zP 2 (some 51) q13_2 HT_ ?_
           refine zP 4 (some 53) q13_3 HT_ ?_
           refine zP 6 (some 55) q13_4 HT_ ?_
           refine zP 8 (some 57) q13_5 HT_ ?_
           refine zT 1 (some 50) q13_6 HT_ HW_ hHeld ?_
           refine zT 3 (some 52) q13_7 HT_ HW_ hHeld ?_
           refine zT 5 (some 54) q13_8 HT_ HW_ hHeld ?_
           refine zP 7 (some 56) q13_9 HT_ ?_
           refine zP 9 (some 58) q13_10 HT_ ?_
           refine one_ (i := 10) (N := some 59) q13_11 rfl rfl (one_of HT_.out (by kernel_rfl)) (by decide) (fun K hK => ?_)
           refine value_ (w1 := ?_) (v := ?_) (by rfl) rfl ?_ ?_
           rotate_left 2
           ·go_simp
            constructor
            ·rfl
            rfl
           refine hK.out _ _ ⟨(blk_cell (blk_alloc Ad.out _) 0).trans rfl, (blk_cell (blk_alloc Ac.out _) 0).trans rfl, (blk_cell (blk_alloc Ac.out _) 1).trans rfl, (blk_cell (blk_alloc Ac.out _) 2).trans rfl⟩ (fun hHeld => ?_)
           clear hK K
           refine zN ?_
           refine one_ (i := 11) (N := some 60) q13_12 rfl rfl (one_of HT_.out (by kernel_rfl)) (by decide) (fun K hK => ?_)
           refine Kd.R_append_step k45 (w0 := w) w.heap.size (by rfl) (.tmp 50) (.tmp 59) 27 45 (.agg #[(.string ⟨#[]⟩), (.string ⟨#[]⟩), (.int .i64 0)]) 40 rfl Try.underlying27 info45 rfl (by decide) (by omega) Ai Ag (⟨((rd_T45 l0_0 Ab).f0), ((rd_T45 l0_0 Ab).f1).extract 0 (Aq : Int).toNat, Aq⟩ : S45) [.string ((rd_T45 l0_0 Ab).f0), .string (((rd_T45 l0_0 Ab).f1).extract 0 (Aq : Int).toNat), .int .i64 Aq] (fun k_ => k_ ≠ Ah) (fun _ => False) rfl rfl ?aP (fun _ hk => hk.elim) ?aF ?aO ?aB ?aS ?aL ?_
           (case aP => exact k45_mkM _ _ _ (⟨((rd_T45 l0_0 Ab).f0), ((rd_T45 l0_0 Ab).f1).extract 0 (Aq : Int).toNat, Aq⟩ : S45))
           (case aB => exact (zw HB))
           (case aF => exact (fun k_ hk => Kd.freshB (g := Ah) (o := .cells #[.string ((rd_T45 l0_0 Ab).f0), .string ((rd_T45 l0_0 Ab).f1), .int .i64 ((rd_T45 l0_0 Ab).f2)] 45 (0, 0)) (zk Ac) k_ hk))
           (case aO => exact (zo Aa.out))
           (case aS => exact (below_size (zw HB)))
           (case aL => have := LMc64.out; omega)
           intro v300 D0 ho hb hg hat
           rw [← Ny299.out] at ho
           replace Ae := Aside0.mk (blk_grown (g := Bf) (o := .cells #[.slice (some Bp) l0_0.length c0_0] 29 (0, 0)) (zk Ae) hg (Kd.R_ne Aa.out Ae.out (by decide)))
           replace Af := Aside0.mk (blk_grown (g := Bb) (o := .cells #[.slice none 0 0] 29 (0, 0)) (zk Af) hg (Kd.R_ne Aa.out Af.out (by decide)))
           replace Ad := Aside0.mk (blk_grown (g := Am) (o := .cells #[Ai] 29 (0, 0)) (zk Ad) hg (Kd.R_ne Aa.out Ad.out (by decide)))
           replace Ac := Aside0.mk (blk_grown (g := Ah) (o := .cells #[.string ((rd_T45 l0_0 Ab).f0), .string ((rd_T45 l0_0 Ab).f1), .int .i64 ((rd_T45 l0_0 Ab).f2)] 45 (0, 0)) (zk Ac) hg (Kd.R_away Aa.out (fun _ hk => hk)))
           replace HB := Aside0.mk (hb)
           have Cb := Aside0.mk (ho)
           clear Aa
           clear ho hb hg hat
           obtain ⟨Do, C2, Cx⟩ := Kd.R_slice Cb.out
           (first | subst Cx | (injection Cx with f1_ f2_ f3_; have f4_ := f1_.symm; have f5_ := f3_.symm; clear f1_ f2_ f3_; subst f4_; subst f5_))
           refine hK.out _ _ ⟨zv Ad, zv Ac, zv Ac, zv Ac⟩ (fun hHeld => ?_)
           clear hK K
           refine zN ?_
           refine zP 12 (some 61) q13_13 HT_ ?_
           refine last_ (i := 13) (N := none) q13_14 rfl rfl (one_of HT_.out (by kernel_rfl)) (by decide) (fun K hK => ?_)
           have hs72 : D0.cell? ⟨Am, 0, none⟩ = some (Ai) := zv Ad
           have hfs72 := blk_frozen Ad.out 0
           have hns72_0 := Ap.out
           have hns72_1 := As.out
           have hns72_3 := Aj.out
           have hms72_0 := Ao.out
           have hms72_1 := Ar.out
           have hms72_3 := Ak.out
           refine skip_ (w1 := ?_) (by rfl) rfl ?_ ?_
           rotate_left
           ·go_simp
            rfl
           refine hK.out _ _ ?_
           clear hK K
           refine done_ (done_of HT_.out (by kernel_rfl)) ?_
           try go_wp2
           go_roundg Bk
           case measure => have := Bt.out; have := HJ15.out; omega
           case rel => exact ⟨(wrap64 (Ab + 1)), (Bu), (.slice Do Bu.length C2), zf, H', ⟨by have := Bt.out; have := HJ15.out; omega⟩, ⟨zo (Kd.R_mono (Kd.R_far (p := ⟨Am, 0, none⟩) (Kd.R_types Cb.out Ad.out (by decide)) (fun _ hk => hk.2) (.slice Do Bu.length C2)) (fun _ hk => trivial))⟩, ⟨zkf Ae⟩, ⟨zkf Af⟩, ⟨zj Ad⟩, ⟨zw HB⟩⟩
          rw [if_neg Ds] at H
          exact absurd H (by simp)
         rw [if_neg C6] at H
         exact absurd H (by simp)
        rw [if_neg C7] at H
        exact absurd H (by simp)
     rw [if_neg Di] at H
     exact absurd H (by simp)
    rw [if_neg Ci] at H
    have Ca := decide_eq_false Ci
    clear Ci
    simp only [Option.some.injEq, Prod.mk.injEq] at H
    obtain ⟨rfl, rfl⟩ := H
    have hnb73 := Ba.out
    have hnc73 := Ay.out
    have hnb74 := Ap.out
    have hnc74 := Ao.out
    obtain ⟨_, _⟩ := zc1 Ae
    have hnb76 := Ar.out
    have hnc76 := As.out
    obtain ⟨_, _⟩ := zc1 Ad
    obtain ⟨Dn, C1, Dw⟩ := Kd.R_slice Aa.out
    subst Dw
    obtain ⟨_, _⟩ := zc1 Af
    go_wp2
    refine bodyPost_ret (results_ct rfl _ _ Bb 29 #[.slice Dn Ag.length C1] (0, 0) _ rfl (zj Af) Try.underlying29 rfl (by kernel_rfl)) rfl ?_
    exact ⟨_, ze, zo (Kd.R_mono (Kd.R_far (p := ⟨Bb, 0, none⟩) (Kd.R_types Aa.out Af.out (by decide)) (fun _ hk => hk.2) (.slice Dn Ag.length C1)) (fun _ hk => trivial)), zw HB⟩
 replace c4 := Bool.eq_false_iff.mpr c4
 subst c4
 rw [if_neg (show ¬ (false = true) by decide)] at H
 simp only [Option.some.injEq, Prod.mk.injEq] at H
 obtain ⟨rfl, rfl⟩ := H
 go_enter Try.func28, Try.ntmps28
 go_wp2_with (first | ((with_reducible refine gate_dst (N := 2) rfl ?_); refine zx (N := 2) (cs := #[.slice A0_0 l0_0.length c0_0]) (t := 29) ?_; intro Bf hg w80 hbox hb; have Ae := Aside0.mk (hbox); have Dk := zg HB hg; have Dm := zg HB hg; replace HB := zs HB hb; clear hb hbox hg) | ((with_reducible refine gate_dst (N := 4) rfl ?_); refine zx (N := 4) (cs := #[.slice none 0 0]) (t := 29) ?_; intro Bb hg w81 hbox hb; have Af := Aside0.mk (hbox); have Dj := zg HB hg; have Dl := zg HB hg; replace HB := zs HB hb; have Ba := zl Ae hg; have Ay := zr Ae hg; replace Ae := zb Ae hb; clear hb hbox hg; have hnb82 := Ba.out; have hnc82 := Ay.out; obtain ⟨_, _⟩ := zc1 Ae) | ((with_reducible refine gate_callee (f := 13) rfl ?_); refine zG (some 11) Try.func13 #[.agg #[.slice A0_0 l0_0.length c0_0]] ?_; (with_reducible refine (spec_DiskOk.calls k _ _ l0_0 false _ ?side1 ?side2 A3.out).mono ?_); (case side1 => exact zI (Kd.C_below HR0_0.out HB.out)); (case side2 => exact Cf.out); rintro e w84 ⟨rfl, hb⟩; refine ⟨_, rfl, ?_⟩; replace Ae := zb Ae hb; replace Af := zb Af hb; replace HB := zs HB hb; clear hb; obtain ⟨_, _⟩ := zc1 Af))
 refine bodyPost_ret (results_ct rfl _ _ Bb 29 #[.slice none 0 0] (0, 0) _ rfl (zj Af) Try.underlying29 rfl (by kernel_rfl)) rfl ?_
 exact ⟨_, ze, by first | exact Kd.R_nil _ _ _ _ _ | exact Kd.N_nil _ _ _ _ _ | exact Kd.V_nil _ _ _ _ _ | exact Kd.Q_nil _ _ _ _ _ | exact Kd.S_nil _ _ _ _ _, zw HB⟩

end Go.Proofs.Ytdiecogmaiglaaa.PFnExactCutActs
