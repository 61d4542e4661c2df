import Derived.Test.YtdiecogmaiglaaaQFnExactDoActsx0
import Derived.Test.YtdiecogmaiglaaaQFnExactDoActsx2
import Derived.Test.YtdiecogmaiglaaaQFnExactDoActsx13
import Derived.Test.YtdiecogmaiglaaaQFnExactDoActsx15
namespace Go.Proofs.Ytdiecogmaiglaaa.PFnExactDoActs
open Go.RowKit Go.Proofs.YtdiecogmaiglaaaW.PrintWords Go.Proofs.YtdiecogmaiglaaaW.PrintLast Go.Proofs.YtdiecogmaiglaaaW.PrintMore
attribute [local go_sem] max2_int min2_int max_two min_two max_three min_three max_four min_four   -- for this text's walks alone
set_option linter.unusedVariables false
set_option linter.unusedSimpArgs false

/-! ### impl_DoActs: function 41 -/
def impl_DoActs.l0 : Nat → List (S55) → List (S55) → Int → Int → List (S45) → Option ((List (S45)) × Int)
 | 0, _, _, _, _, _ => none
 | k + 1, x1, x13, x14, x15, x299000 => if x15 < x14 then (if 0 ≤ x15 then (if x15 < (x13.length : Int) then ((impl_DoAct.f k x299000 ((rd_T55 x13 x15).f0) ((rd_T55 x13 x15).f1) ((rd_T55 x13 x15).f2) ((rd_T55 x13 x15).f3)).bind fun bt301 => (if bt301.2 = true then (impl_DoActs.l0 k x1 x13 x14 (wrap64 (x15 + 1)) bt301.1) else (some (x299000, x15)))) else (none)) else (none)) else (some (x299000, (x1.length : Int)))
def impl_DoActs.f (k : Nat) (l0_0 : List (S45)) (l1 : List (S55)) : Option ((List (S45)) × Int) := (impl_copyDisk.f l0_0).bind fun t295 => (impl_DoActs.l0 k l1 l1 (l1.length : Int) 0 t295)
theorem impl_DoActs.mono_l : ∀ k, (∀ y0 y1 y2 y3 y4, LeO (impl_DoActs.l0 k y0 y1 y2 y3 y4) (impl_DoActs.l0 (k + 1) y0 y1 y2 y3 y4))
 | 0 => fun _ _ _ _ _ r h => by simp [impl_DoActs.l0] at h
 | k + 1 => by
  have ih0 := impl_DoActs.mono_l k
  intro y0 y1 y2 y3 y4
  unfold impl_DoActs.l0
  repeat' first
  | (with_reducible exact ih0 _ _ _ _ _)
  | (with_reducible exact impl_DoAct.mono _ _ _ _ _ _)
  | (with_reducible exact LeO.refl _)
  | (with_reducible exact LeO.none _)
  | (with_reducible refine LeO.ite ?_ ?_)
  | (with_reducible refine LeO.bind ?_ (fun _ => ?_))
  | exact ih0 _ _ _ _ _
  | exact impl_DoAct.mono _ _ _ _ _ _
  | exact LeO.none _
  | refine LeO.ite ?_ ?_
  | refine LeO.bind ?_ (fun _ => ?_)
theorem impl_DoActs.mono : ∀ a0 a1 k, LeO (impl_DoActs.f k a0 a1) (impl_DoActs.f (k + 1) a0 a1) := by
 intro a0 a1 k
 have ih0 := impl_DoActs.mono_l k
 unfold impl_DoActs.f
 repeat' first
   | (with_reducible exact ih0 _ _ _ _ _)
   | (with_reducible exact impl_DoAct.mono _ _ _ _ _ _)
   | (with_reducible exact LeO.refl _)
   | (with_reducible exact LeO.none _)
   | (with_reducible refine LeO.ite ?_ ?_)
   | (with_reducible refine LeO.bind ?_ (fun _ => ?_))
   | exact ih0 _ _ _ _ _
   | exact impl_DoAct.mono _ _ _ _ _ _
   | exact LeO.none _
   | refine LeO.ite ?_ ?_
   | refine LeO.bind ?_ (fun _ => ?_)
set_option maxHeartbeats 8000000 in
set_option maxRecDepth 100000 in
theorem impl_DoActs.calls (k : Nat) (A0_0 : Option Addr) (c0_0 : Nat) (l0_0 : List (S45)) (A1 : Option Addr) (c1 : Nat) (l1 : List (S55)) (r1 : List (S45)) (r2 : Int) (w : World) (hr0_0 : Kd.C k45 w A0_0 l0_0.length l0_0) (hc0_0 : l0_0.length ≤ c0_0) (hr1 : Kd.C k55 w A1 l1.length l1) (hc1 : l1.length ≤ c1) (h : impl_DoActs.f k l0_0 l1 = some (r1, r2)) :
  Calls Try.prog 41 #[.agg #[.slice A0_0 l0_0.length c0_0], .slice A1 l1.length c1] w fun e w' => ∃ v0_ : Value, e = .returned (.tuple #[.agg #[v0_], .int .i64 r2]) ∧ Kd.R k45 45 w' w.heap.size (fun _ => True) v0_ r1 ∧ Below w.heap.size w w' := by
 have hu29 := Try.underlying29
 have hu55 := Try.underlying55
 have HR0_0 := Aside0.mk hr0_0
 have HC0_0 := Aside0.mk hc0_0
 clear hr0_0 hc0_0
 have HR1 := Aside0.mk hr1
 have HC1 := Aside0.mk hc1
 clear hr1 hc1
 have HB := Aside0.mk (Below.refl w.heap.size w)
 have H : ((impl_copyDisk.f l0_0).bind fun t295 => (impl_DoActs.l0 k l1 l1 (l1.length : Int) 0 t295)) = some (r1, r2) := h
 clear h
 replace H := Option.bind_eq_some_iff.mp H
 obtain ⟨t295, A30, H⟩ := H
 have A3 := Aside0.mk A30
 clear A30
 have H' := Aside0.mk H
 clear H
 go_enter Try.func41, Try.ntmps41
 go_wp2_with (first | ((with_reducible refine gate_dst (N := 2) rfl ?_); refine zx (N := 2) (cs := #[.slice A0_0 l0_0.length c0_0]) (t := 29) ?_; intro gb293 hg w4 hbox hb; have BK293 := Aside0.mk (hbox); have GW293 := zg HB hg; have GE293 := zg HB hg; replace HB := zs HB hb; clear hb hbox hg) | ((with_reducible refine gate_dst (N := 4) rfl ?_); refine zx (N := 4) (cs := #[.slice none 0 0]) (t := 29) ?_; intro gb294 hg w5 hbox hb; have BK294 := Aside0.mk (hbox); have GW294 := zg HB hg; have GE294 := zg HB hg; replace HB := zs HB hb; have NB293_294 := zl BK293 hg; have NB294_293 := zr BK293 hg; replace BK293 := zb BK293 hb; clear hb hbox hg; have hnb6 := NB293_294.out; have hnc6 := NB294_293.out; obtain ⟨m7_0, n7_0⟩ := zc1 BK293) | ((with_reducible refine gate_callee (f := 61) rfl ?_); refine zG (some 12) Try.func61 #[.agg #[.slice A0_0 l0_0.length c0_0]] ?_; (with_reducible refine (impl_copyDisk.calls _ _ l0_0 t295 _ ?side1 ?side2 A3.out).mono ?_); (case side1 => exact zI (Kd.C_below HR0_0.out HB.out)); (case side2 => exact HC0_0.out); rintro e w8 ⟨v296, rfl, ho0, hb⟩; refine ⟨_, rfl, ?_⟩; have HO297 := Aside0.mk (Kd.R_lower ho0 (below_size (zw HB))); replace BK293 := zb BK293 hb; replace BK294 := zb BK294 hb; replace HB := zs HB hb; clear ho0 hb) | ((with_reducible refine gate_dst (N := 6) rfl ?_); refine zx (N := 6) (cs := #[.slice none 0 0]) (t := 29) ?_; intro gb298 hg w9 hbox hb; replace HO297 := zy HO297 hb; have BK298 := Aside0.mk (hbox); have GW298 := zg HB hg; have GE298 := zg HB hg; replace HB := zs HB hb; have NB293_298 := zl BK293 hg; have NB298_293 := zr BK293 hg; replace BK293 := zb BK293 hb; have NB294_298 := zl BK294 hg; have NB298_294 := zr BK294 hg; replace BK294 := zb BK294 hb; clear hb hbox hg; obtain ⟨Ao10, co10, eo10⟩ := Kd.R_slice HO297.out; subst eo10; have hnb11 := NB298_293.out; have hnc11 := NB293_298.out; have hnb12 := NB298_294.out; have hnc12 := NB294_298.out; obtain ⟨m13_0, n13_0⟩ := zc1 BK298))
 go_loopg [15] k (fun kq v15 w' => ∃ (x15_1 : Int) (x299000_1 : List (S45)) (u299000 : Value), v15 = .int .i64 x15_1 ∧ Aside0 (impl_DoActs.l0 kq l1 l1 (l1.length : Int) x15_1 x299000_1 = some (r1, r2)) ∧ Aside0 (kq ≤ k) ∧ Aside0 (Kd.R k45 45 w' w.heap.size (fun _ => True) u299000 x299000_1) ∧ Aside0 (w'.heap[gb293]? = some (.cells #[(.slice A0_0 l0_0.length c0_0)] 29 (0, 0))) ∧ Aside0 (w'.heap[gb294]? = some (.cells #[(.slice none 0 0)] 29 (0, 0))) ∧ Aside0 (w'.heap[gb298]? = some (.cells #[u299000] 29 (0, 0))) ∧ Aside0 (Below w.heap.size w w'))
 case atStart => exact ⟨(0), (t295), (.slice Ao10 t295.length co10), zf, H', ⟨Nat.le_refl _⟩, ⟨zo (Kd.R_mono (Kd.R_far (p := ⟨gb298, 0, none⟩) (Kd.R_types HO297.out BK298.out (by decide)) (fun _ hk => hk.2) (.slice Ao10 t295.length co10)) (fun _ hk => trivial))⟩, ⟨zkf BK293⟩, ⟨zkf BK294⟩, ⟨by (with_reducible repeat (first | refine blk_drewN ?_ _ | refine blk_drew ?_ | refine blk_alloc ?_ _)); refine blk_put (cs := #[.slice none 0 0]) ?_ 0 _ rfl; (with_reducible repeat (first | refine blk_drewN ?_ _ | refine blk_drew ?_ | refine blk_alloc ?_ _)); exact BK298.out⟩, ⟨zw HB⟩⟩
 case round =>
  clear H'
  try clear c1
  try clear p2
  try clear c4
  try clear c6
  try clear c11
  try clear c12
  try clear m13_0
  try clear m7_0
  try clear n13_0
  try clear n7_0
  obtain ⟨x15_1, x299000_1, u299000, rfl, HA, HK1, HO_299000, BK293, BK294, BK298, HB⟩ := hrel
  cases gk with
  | zero => exact absurd HA.out (by simp [impl_DoActs.l0])
  | succ k1 =>
   have H := HA.out
   clear HA
   simp only [impl_DoActs.l0] at H
   by_cases c14 : x15_1 < (l1.length : Int)
   ·rw [if_pos c14] at H
    have c14b0 := decide_eq_true c14
    clear c14
    by_cases c15 : 0 ≤ x15_1
    ·rw [if_pos c15] at H
     have c15b0 := decide_eq_true c15
     clear c15
     by_cases c16 : x15_1 < (l1.length : Int)
     ·rw [if_pos c16] at H
      have c16b0 := decide_eq_true c16
      clear c16
      replace H := Option.bind_eq_some_iff.mp H
      obtain ⟨⟨t301, t304⟩, A170, H⟩ := H
      replace H : (if t304 = true then (impl_DoActs.l0 k1 l1 l1 (l1.length : Int) (wrap64 (x15_1 + 1)) t301) else (some (x299000_1, x15_1))) = some (r1, r2) := H
      have A17 := Aside0.mk A170
      clear A170
      by_cases c18 : t304 = true
      ·subst c18
       rw [if_pos rfl] at H
       have H' := Aside0.mk H
       clear H
       have p299 : 0 ≤ (x15_1 : Int) := of_decide_eq_true za
       have q299 : x15_1 < (l1.length : Int) := of_decide_eq_true za
       obtain ⟨ad299, e299, hx299_0, hx299_1, hx299_2, hx299_3⟩ := at_T55 HR1.out x15_1 p299 q299
       cases e299
       replace hx299_0 := zU HB.out hx299_0
       replace hx299_1 := zU HB.out hx299_1
       replace hx299_2 := zU HB.out hx299_2
       replace hx299_3 := zU HB.out hx299_3
       replace p299 := eq_true p299
       replace q299 := eq_true q299
       go_wp2_with (first | ((with_reducible refine gate_dst (N := 8) rfl ?_); refine zx (N := 8) (cs := #[.int .i64 0, .string (⟨#[]⟩ : ByteArray), .string (⟨#[]⟩ : ByteArray), .string (⟨#[]⟩ : ByteArray)]) (t := 55) ?_; intro gb300 hg w19 hbox hb; replace HO_299000 := zy HO_299000 hb; have BK300 := Aside0.mk (hbox); have GW300 := zg HB hg; have GE300 := zg HB hg; replace HB := zs HB hb; have NB293_300 := zl BK293 hg; have NB300_293 := zr BK293 hg; replace BK293 := zb BK293 hb; have NB294_300 := zl BK294 hg; have NB300_294 := zr BK294 hg; replace BK294 := zb BK294 hb; have NB298_300 := zl BK298 hg; have NB300_298 := zr BK298 hg; replace BK298 := zb BK298 hb; clear hb hbox hg; have hnb20 := NB300_293.out; have hnc20 := NB293_300.out; have hnb21 := NB300_294.out; have hnc21 := NB294_300.out; have hnb22 := NB300_298.out; have hnc22 := NB298_300.out; obtain ⟨m23_0, m23_1, m23_2, m23_3, n23_0, n23_1, n23_2, n23_3⟩ := zc4 BK300; have hnb24 := NB298_293.out; have hnc24 := NB293_298.out; have hnb25 := NB298_294.out; have hnc25 := NB294_298.out; obtain ⟨m26_0, n26_0⟩ := zc1 BK298; obtain ⟨Ao27, co27, eo27⟩ := Kd.R_slice HO_299000.out; subst eo27) | ((with_reducible refine gate_callee (f := 37) rfl ?_); refine zG (some 23) Try.func37 #[.agg #[.slice Ao27 x299000_1.length co27], .agg #[.int .i64 ((rd_T55 l1 x15_1).f0), .string ((rd_T55 l1 x15_1).f1), .string ((rd_T55 l1 x15_1).f2), .string ((rd_T55 l1 x15_1).f3)]] ?_; (with_reducible refine (impl_DoAct.calls k1 _ _ x299000_1 ((rd_T55 l1 x15_1).f0) ((rd_T55 l1 x15_1).f1) ((rd_T55 l1 x15_1).f2) ((rd_T55 l1 x15_1).f3) t301 true _ ?side1 ?side2 A17.out).mono ?_); (case side1 => refine (Kd.R_reads' (e := 45) (base := w.heap.size) (ok := fun k_ => True) (n := x299000_1.length) (c := co27) ?_).2.2; exact (zo ((Kd.R_mono (Kd.R_far (p := ⟨gb300, 3, none⟩) (Kd.R_far (p := ⟨gb300, 2, none⟩) (Kd.R_far (p := ⟨gb300, 1, none⟩) (Kd.R_far (p := ⟨gb300, 0, none⟩) (Kd.R_types HO_299000.out BK300.out (by decide)) (fun _ hk => hk.2) (.int .i64 ((rd_T55 l1 x15_1).f0))) (fun _ hk => hk.2) (.string ((rd_T55 l1 x15_1).f1))) (fun _ hk => hk.2) (.string ((rd_T55 l1 x15_1).f2))) (fun _ hk => hk.2) (.string ((rd_T55 l1 x15_1).f3))) (fun _ h_ => h_.1))))); (case side2 => exact (Kd.R_reads' HO_299000.out).2.1); rintro e w28 ⟨v302, rfl, ho0, hb⟩; refine ⟨_, rfl, ?_⟩; have HO303 := Aside0.mk (Kd.R_lower (Kd.R_new' ho0 (Kd.R_lt (zo ((Kd.R_mono (Kd.R_far (p := ⟨gb300, 3, none⟩) (Kd.R_far (p := ⟨gb300, 2, none⟩) (Kd.R_far (p := ⟨gb300, 1, none⟩) (Kd.R_far (p := ⟨gb300, 0, none⟩) (Kd.R_types HO_299000.out BK300.out (by decide)) (fun _ hk => hk.2) (.int .i64 ((rd_T55 l1 x15_1).f0))) (fun _ hk => hk.2) (.string ((rd_T55 l1 x15_1).f1))) (fun _ hk => hk.2) (.string ((rd_T55 l1 x15_1).f2))) (fun _ hk => hk.2) (.string ((rd_T55 l1 x15_1).f3))) (fun _ h_ => h_.1)))))) (below_size (zw HB))); replace HO_299000 := Aside0.mk (Kd.R_elder' (zo ((Kd.R_mono (Kd.R_far (p := ⟨gb300, 3, none⟩) (Kd.R_far (p := ⟨gb300, 2, none⟩) (Kd.R_far (p := ⟨gb300, 1, none⟩) (Kd.R_far (p := ⟨gb300, 0, none⟩) (Kd.R_types HO_299000.out BK300.out (by decide)) (fun _ hk => hk.2) (.int .i64 ((rd_T55 l1 x15_1).f0))) (fun _ hk => hk.2) (.string ((rd_T55 l1 x15_1).f1))) (fun _ hk => hk.2) (.string ((rd_T55 l1 x15_1).f2))) (fun _ hk => hk.2) (.string ((rd_T55 l1 x15_1).f3))) (fun _ h_ => h_.1)))) (Kd.R_base ho0) hb); replace BK293 := zbf BK293 hb; replace BK294 := zbf BK294 hb; replace BK298 := zbf BK298 hb; replace BK300 := Aside0.mk (blk_below (g := gb300) (o := .cells #[.int .i64 ((rd_T55 l1 x15_1).f0), .string ((rd_T55 l1 x15_1).f1), .string ((rd_T55 l1 x15_1).f2), .string ((rd_T55 l1 x15_1).f3)] 55 (0, 0)) (by (with_reducible repeat (first | refine blk_drewN ?_ _ | refine blk_drew ?_ | refine blk_alloc ?_ _)); refine blk_put (cs := #[.int .i64 ((rd_T55 l1 x15_1).f0), .string ((rd_T55 l1 x15_1).f1), .string ((rd_T55 l1 x15_1).f2), .string (⟨#[]⟩ : ByteArray)]) ?_ 3 _ rfl; (with_reducible repeat (first | refine blk_drewN ?_ _ | refine blk_drew ?_ | refine blk_alloc ?_ _)); refine blk_put (cs := #[.int .i64 ((rd_T55 l1 x15_1).f0), .string ((rd_T55 l1 x15_1).f1), .string (⟨#[]⟩ : ByteArray), .string (⟨#[]⟩ : ByteArray)]) ?_ 2 _ rfl; (with_reducible repeat (first | refine blk_drewN ?_ _ | refine blk_drew ?_ | refine blk_alloc ?_ _)); refine blk_put (cs := #[.int .i64 ((rd_T55 l1 x15_1).f0), .string (⟨#[]⟩ : ByteArray), .string (⟨#[]⟩ : ByteArray), .string (⟨#[]⟩ : ByteArray)]) ?_ 1 _ rfl; (with_reducible repeat (first | refine blk_drewN ?_ _ | refine blk_drew ?_ | refine blk_alloc ?_ _)); refine blk_put (cs := #[.int .i64 0, .string (⟨#[]⟩ : ByteArray), .string (⟨#[]⟩ : ByteArray), .string (⟨#[]⟩ : ByteArray)]) ?_ 0 _ rfl; (with_reducible repeat (first | refine blk_drewN ?_ _ | refine blk_drew ?_ | refine blk_alloc ?_ _)); exact BK300.out) hb); replace HB := zs HB hb; clear ho0 hb) | ((with_reducible refine gate_dst (N := 9) rfl ?_); refine zx (N := 9) (cs := #[.slice none 0 0]) (t := 29) ?_; intro gb305 hg w29 hbox hb; replace HO_299000 := zy HO_299000 hb; replace HO303 := zy HO303 hb; have BK305 := Aside0.mk (hbox); have GW305 := zg HB hg; have GE305 := zg HB hg; replace HB := zs HB hb; have NB293_305 := zl BK293 hg; have NB305_293 := zr BK293 hg; replace BK293 := zb BK293 hb; have NB294_305 := zl BK294 hg; have NB305_294 := zr BK294 hg; replace BK294 := zb BK294 hb; have NB298_305 := zl BK298 hg; have NB305_298 := zr BK298 hg; replace BK298 := zb BK298 hb; have NB300_305 := zl BK300 hg; have NB305_300 := zr BK300 hg; replace BK300 := zb BK300 hb; clear hb hbox hg; obtain ⟨Ao30, co30, eo30⟩ := Kd.R_slice HO303.out; subst eo30; have hnb31 := NB305_293.out; have hnc31 := NB293_305.out; have hnb32 := NB305_294.out; have hnc32 := NB294_305.out; have hnb33 := NB305_298.out; have hnc33 := NB298_305.out; have hnb34 := NB305_300.out; have hnc34 := NB300_305.out; obtain ⟨m35_0, n35_0⟩ := zc1 BK305; obtain ⟨m36_0, n36_0⟩ := zc1 BK298))
       go_roundg k1
       case measure => have := HK1.out; omega
       case rel => exact ⟨(wrap64 (x15_1 + 1)), (t301), (.slice Ao30 t301.length co30), zf, H', ⟨by have := HK1.out; omega⟩, ⟨zo (Kd.R_mono (Kd.R_far (p := ⟨gb298, 0, none⟩) (Kd.R_far (p := ⟨gb305, 0, none⟩) (Kd.R_types (Kd.R_types HO303.out BK305.out (by decide)) BK298.out (by decide)) (fun _ hk => hk.1.2) (.slice Ao30 t301.length co30)) (fun _ hk => hk.2) (.slice Ao30 t301.length co30)) (fun _ hk => trivial))⟩, ⟨zkf BK293⟩, ⟨zkf BK294⟩, ⟨by (with_reducible repeat (first | refine blk_drewN ?_ _ | refine blk_drew ?_ | refine blk_alloc ?_ _)); refine blk_put (cs := #[.slice Ao27 x299000_1.length co27]) ?_ 0 _ rfl; (with_reducible repeat (first | refine blk_drewN ?_ _ | refine blk_drew ?_ | refine blk_alloc ?_ _)); refine blk_far ?_ NB298_305.out _; (with_reducible repeat (first | refine blk_drewN ?_ _ | refine blk_drew ?_ | refine blk_alloc ?_ _)); exact BK298.out⟩, ⟨zw HB⟩⟩
      replace c18 := Bool.eq_false_iff.mpr c18
      subst c18
      rw [if_neg (show ¬ (false = true) by decide)] at H
      simp only [Option.some.injEq, Prod.mk.injEq] at H
      obtain ⟨rfl, rfl⟩ := H
      have p299 : 0 ≤ (x15_1 : Int) := of_decide_eq_true za
      have q299 : x15_1 < (l1.length : Int) := of_decide_eq_true za
      obtain ⟨ad299, e299, hx299_0, hx299_1, hx299_2, hx299_3⟩ := at_T55 HR1.out x15_1 p299 q299
      cases e299
      replace hx299_0 := zU HB.out hx299_0
      replace hx299_1 := zU HB.out hx299_1
      replace hx299_2 := zU HB.out hx299_2
      replace hx299_3 := zU HB.out hx299_3
      replace p299 := eq_true p299
      replace q299 := eq_true q299
      go_wp2_with (first | ((with_reducible refine gate_dst (N := 8) rfl ?_); refine zx (N := 8) (cs := #[.int .i64 0, .string (⟨#[]⟩ : ByteArray), .string (⟨#[]⟩ : ByteArray), .string (⟨#[]⟩ : ByteArray)]) (t := 55) ?_; intro gb300 hg w37 hbox hb; replace HO_299000 := zy HO_299000 hb; have BK300 := Aside0.mk (hbox); have GW300 := zg HB hg; have GE300 := zg HB hg; replace HB := zs HB hb; have NB293_300 := zl BK293 hg; have NB300_293 := zr BK293 hg; replace BK293 := zb BK293 hb; have NB294_300 := zl BK294 hg; have NB300_294 := zr BK294 hg; replace BK294 := zb BK294 hb; have NB298_300 := zl BK298 hg; have NB300_298 := zr BK298 hg; replace BK298 := zb BK298 hb; clear hb hbox hg; have hnb38 := NB300_293.out; have hnc38 := NB293_300.out; have hnb39 := NB300_294.out; have hnc39 := NB294_300.out; have hnb40 := NB300_298.out; have hnc40 := NB298_300.out; obtain ⟨m41_0, m41_1, m41_2, m41_3, n41_0, n41_1, n41_2, n41_3⟩ := zc4 BK300; have hnb42 := NB298_293.out; have hnc42 := NB293_298.out; have hnb43 := NB298_294.out; have hnc43 := NB294_298.out; obtain ⟨m44_0, n44_0⟩ := zc1 BK298; obtain ⟨Ao45, co45, eo45⟩ := Kd.R_slice HO_299000.out; subst eo45) | ((with_reducible refine gate_callee (f := 37) rfl ?_); refine zG (some 23) Try.func37 #[.agg #[.slice Ao45 x299000_1.length co45], .agg #[.int .i64 ((rd_T55 l1 x15_1).f0), .string ((rd_T55 l1 x15_1).f1), .string ((rd_T55 l1 x15_1).f2), .string ((rd_T55 l1 x15_1).f3)]] ?_; (with_reducible refine (impl_DoAct.calls k1 _ _ x299000_1 ((rd_T55 l1 x15_1).f0) ((rd_T55 l1 x15_1).f1) ((rd_T55 l1 x15_1).f2) ((rd_T55 l1 x15_1).f3) t301 false _ ?side1 ?side2 A17.out).mono ?_); (case side1 => refine (Kd.R_reads' (e := 45) (base := w.heap.size) (ok := fun k_ => True) (n := x299000_1.length) (c := co45) ?_).2.2; exact (zo ((Kd.R_mono (Kd.R_far (p := ⟨gb300, 3, none⟩) (Kd.R_far (p := ⟨gb300, 2, none⟩) (Kd.R_far (p := ⟨gb300, 1, none⟩) (Kd.R_far (p := ⟨gb300, 0, none⟩) (Kd.R_types HO_299000.out BK300.out (by decide)) (fun _ hk => hk.2) (.int .i64 ((rd_T55 l1 x15_1).f0))) (fun _ hk => hk.2) (.string ((rd_T55 l1 x15_1).f1))) (fun _ hk => hk.2) (.string ((rd_T55 l1 x15_1).f2))) (fun _ hk => hk.2) (.string ((rd_T55 l1 x15_1).f3))) (fun _ h_ => h_.1))))); (case side2 => exact (Kd.R_reads' HO_299000.out).2.1); rintro e w46 ⟨v302, rfl, ho0, hb⟩; refine ⟨_, rfl, ?_⟩; have HO303 := Aside0.mk (Kd.R_lower (Kd.R_new' ho0 (Kd.R_lt (zo ((Kd.R_mono (Kd.R_far (p := ⟨gb300, 3, none⟩) (Kd.R_far (p := ⟨gb300, 2, none⟩) (Kd.R_far (p := ⟨gb300, 1, none⟩) (Kd.R_far (p := ⟨gb300, 0, none⟩) (Kd.R_types HO_299000.out BK300.out (by decide)) (fun _ hk => hk.2) (.int .i64 ((rd_T55 l1 x15_1).f0))) (fun _ hk => hk.2) (.string ((rd_T55 l1 x15_1).f1))) (fun _ hk => hk.2) (.string ((rd_T55 l1 x15_1).f2))) (fun _ hk => hk.2) (.string ((rd_T55 l1 x15_1).f3))) (fun _ h_ => h_.1)))))) (below_size (zw HB))); replace HO_299000 := Aside0.mk (Kd.R_elder' (zo ((Kd.R_mono (Kd.R_far (p := ⟨gb300, 3, none⟩) (Kd.R_far (p := ⟨gb300, 2, none⟩) (Kd.R_far (p := ⟨gb300, 1, none⟩) (Kd.R_far (p := ⟨gb300, 0, none⟩) (Kd.R_types HO_299000.out BK300.out (by decide)) (fun _ hk => hk.2) (.int .i64 ((rd_T55 l1 x15_1).f0))) (fun _ hk => hk.2) (.string ((rd_T55 l1 x15_1).f1))) (fun _ hk => hk.2) (.string ((rd_T55 l1 x15_1).f2))) (fun _ hk => hk.2) (.string ((rd_T55 l1 x15_1).f3))) (fun _ h_ => h_.1)))) (Kd.R_base ho0) hb); replace BK293 := zbf BK293 hb; replace BK294 := zbf BK294 hb; replace BK298 := zbf BK298 hb; replace BK300 := Aside0.mk (blk_below (g := gb300) (o := .cells #[.int .i64 ((rd_T55 l1 x15_1).f0), .string ((rd_T55 l1 x15_1).f1), .string ((rd_T55 l1 x15_1).f2), .string ((rd_T55 l1 x15_1).f3)] 55 (0, 0)) (by (with_reducible repeat (first | refine blk_drewN ?_ _ | refine blk_drew ?_ | refine blk_alloc ?_ _)); refine blk_put (cs := #[.int .i64 ((rd_T55 l1 x15_1).f0), .string ((rd_T55 l1 x15_1).f1), .string ((rd_T55 l1 x15_1).f2), .string (⟨#[]⟩ : ByteArray)]) ?_ 3 _ rfl; (with_reducible repeat (first | refine blk_drewN ?_ _ | refine blk_drew ?_ | refine blk_alloc ?_ _)); refine blk_put (cs := #[.int .i64 ((rd_T55 l1 x15_1).f0), .string ((rd_T55 l1 x15_1).f1), .string (⟨#[]⟩ : ByteArray), .string (⟨#[]⟩ : ByteArray)]) ?_ 2 _ rfl; (with_reducible repeat (first | refine blk_drewN ?_ _ | refine blk_drew ?_ | refine blk_alloc ?_ _)); refine blk_put (cs := #[.int .i64 ((rd_T55 l1 x15_1).f0), .string (⟨#[]⟩ : ByteArray), .string (⟨#[]⟩ : ByteArray), .string (⟨#[]⟩ : ByteArray)]) ?_ 1 _ rfl; (with_reducible repeat (first | refine blk_drewN ?_ _ | refine blk_drew ?_ | refine blk_alloc ?_ _)); refine blk_put (cs := #[.int .i64 0, .string (⟨#[]⟩ : ByteArray), .string (⟨#[]⟩ : ByteArray), .string (⟨#[]⟩ : ByteArray)]) ?_ 0 _ rfl; (with_reducible repeat (first | refine blk_drewN ?_ _ | refine blk_drew ?_ | refine blk_alloc ?_ _)); exact BK300.out) hb); replace HB := zs HB hb; clear ho0 hb) | ((with_reducible refine gate_dst (N := 9) rfl ?_); refine zx (N := 9) (cs := #[.slice none 0 0]) (t := 29) ?_; intro gb305 hg w47 hbox hb; replace HO_299000 := zy HO_299000 hb; replace HO303 := zy HO303 hb; have BK305 := Aside0.mk (hbox); have GW305 := zg HB hg; have GE305 := zg HB hg; replace HB := zs HB hb; have NB293_305 := zl BK293 hg; have NB305_293 := zr BK293 hg; replace BK293 := zb BK293 hb; have NB294_305 := zl BK294 hg; have NB305_294 := zr BK294 hg; replace BK294 := zb BK294 hb; have NB298_305 := zl BK298 hg; have NB305_298 := zr BK298 hg; replace BK298 := zb BK298 hb; have NB300_305 := zl BK300 hg; have NB305_300 := zr BK300 hg; replace BK300 := zb BK300 hb; clear hb hbox hg; obtain ⟨Ao48, co48, eo48⟩ := Kd.R_slice HO303.out; subst eo48; have hnb49 := NB305_293.out; have hnc49 := NB293_305.out; have hnb50 := NB305_294.out; have hnc50 := NB294_305.out; have hnb51 := NB305_298.out; have hnc51 := NB298_305.out; have hnb52 := NB305_300.out; have hnc52 := NB300_305.out; obtain ⟨m53_0, n53_0⟩ := zc1 BK305; obtain ⟨m54_0, n54_0⟩ := zc1 BK298; have hnb55 := NB294_293.out; have hnc55 := NB293_294.out; obtain ⟨m56_0, n56_0⟩ := zc1 BK294))
      refine bodyPost_ret (results_ct rfl _ _ gb294 29 #[.slice Ao45 x299000_1.length co45] (0, 0) _ rfl (by (with_reducible repeat (first | refine blk_drewN ?_ _ | refine blk_drew ?_ | refine blk_alloc ?_ _)); refine blk_put (cs := #[.slice none 0 0]) ?_ 0 _ rfl; (with_reducible repeat (first | refine blk_drewN ?_ _ | refine blk_drew ?_ | refine blk_alloc ?_ _)); refine blk_far ?_ NB294_305.out _; (with_reducible repeat (first | refine blk_drewN ?_ _ | refine blk_drew ?_ | refine blk_alloc ?_ _)); exact BK294.out) Try.underlying29 rfl (by kernel_rfl)) rfl ?_
      exact ⟨_, ze, zo (Kd.R_mono (Kd.R_far (p := ⟨gb294, 0, none⟩) (Kd.R_far (p := ⟨gb305, 0, none⟩) (Kd.R_types (Kd.R_types HO_299000.out BK305.out (by decide)) BK294.out (by decide)) (fun _ hk => hk.1.2) (.slice Ao48 t301.length co48)) (fun _ hk => hk.2) (.slice Ao45 x299000_1.length co45)) (fun _ hk => trivial)), zw HB⟩
     rw [if_neg c16] at H
     exact absurd H (by simp)
    rw [if_neg c15] at H
    exact absurd H (by simp)
   rw [if_neg c14] at H
   have c14b0 := decide_eq_false c14
   clear c14
   simp only [Option.some.injEq, Prod.mk.injEq] at H
   obtain ⟨rfl, rfl⟩ := H
   have hnb57 := NB298_293.out
   have hnc57 := NB293_298.out
   have hnb58 := NB298_294.out
   have hnc58 := NB294_298.out
   obtain ⟨m59_0, n59_0⟩ := zc1 BK298
   obtain ⟨Ao60, co60, eo60⟩ := Kd.R_slice HO_299000.out
   subst eo60
   have hnb61 := NB294_293.out
   have hnc61 := NB293_294.out
   obtain ⟨m62_0, n62_0⟩ := zc1 BK294
   go_wp2
   refine bodyPost_ret (results_ct rfl _ _ gb294 29 #[.slice Ao60 x299000_1.length co60] (0, 0) _ rfl (by (with_reducible repeat (first | refine blk_drewN ?_ _ | refine blk_drew ?_ | refine blk_alloc ?_ _)); refine blk_put (cs := #[.slice none 0 0]) ?_ 0 _ rfl; (with_reducible repeat (first | refine blk_drewN ?_ _ | refine blk_drew ?_ | refine blk_alloc ?_ _)); exact BK294.out) Try.underlying29 rfl (by kernel_rfl)) rfl ?_
   exact ⟨_, ze, zo (Kd.R_mono (Kd.R_far (p := ⟨gb294, 0, none⟩) (Kd.R_types HO_299000.out BK294.out (by decide)) (fun _ hk => hk.2) (.slice Ao60 x299000_1.length co60)) (fun _ hk => trivial)), zw HB⟩

/-! ### laws_eqAct: function 68 -/
def laws_eqAct.f (a0_0 : Int) (a0_1 : ByteArray) (a0_2 : ByteArray) (a0_3 : ByteArray) (a1_0 : Int) (a1_1 : ByteArray) (a1_2 : ByteArray) (a1_3 : ByteArray) : Option (Bool) := if a0_0 = a1_0 then (if a0_1.toList = a1_1.toList then (if a0_2.toList = a1_2.toList then (if a0_3.toList = a1_3.toList then (some true) else (some false)) else (some false)) else (some false)) else (some false)
set_option maxHeartbeats 8000000 in
set_option maxRecDepth 100000 in
theorem laws_eqAct.calls (a0_0 : Int) (a0_1 : ByteArray) (a0_2 : ByteArray) (a0_3 : ByteArray) (a1_0 : Int) (a1_1 : ByteArray) (a1_2 : ByteArray) (a1_3 : ByteArray) (r : Bool) (w : World) (h : laws_eqAct.f a0_0 a0_1 a0_2 a0_3 a1_0 a1_1 a1_2 a1_3 = some r) :
  Calls Try.prog 68 #[.agg #[.int .i64 a0_0, .string a0_1, .string a0_2, .string a0_3], .agg #[.int .i64 a1_0, .string a1_1, .string a1_2, .string a1_3]] w fun e w' => e = .returned (.bool r) ∧ Below w.heap.size w w' := by
 have hu55 := Try.underlying55
 have HB := Aside0.mk (Below.refl w.heap.size w)
 have H : (if a0_0 = a1_0 then (if a0_1.toList = a1_1.toList then (if a0_2.toList = a1_2.toList then (if a0_3.toList = a1_3.toList then (some true) else (some false)) else (some false)) else (some false)) else (some false)) = some r := h
 clear h
 by_cases c3 : a0_0 = a1_0
 ·rw [if_pos c3] at H
  have c3b0 : (a0_0 == a1_0) = true := beq_iff_eq.mpr c3
  have c3b1 : (a0_0 != a1_0) = false := bne_eq_false_iff_eq.mpr c3
  clear c3
  by_cases c4 : a0_1.toList = a1_1.toList
  ·rw [if_pos c4] at H
   have c4b0 : (a0_1.toList == a1_1.toList) = true := beq_iff_eq.mpr c4
   have c4b1 : (a0_1.toList != a1_1.toList) = false := bne_eq_false_iff_eq.mpr c4
   clear c4
   by_cases c5 : a0_2.toList = a1_2.toList
   ·rw [if_pos c5] at H
    have c5b0 : (a0_2.toList == a1_2.toList) = true := beq_iff_eq.mpr c5
    have c5b1 : (a0_2.toList != a1_2.toList) = false := bne_eq_false_iff_eq.mpr c5
    clear c5
    by_cases c6 : a0_3.toList = a1_3.toList
    ·rw [if_pos c6] at H
     have c6b0 : (a0_3.toList == a1_3.toList) = true := beq_iff_eq.mpr c6
     have c6b1 : (a0_3.toList != a1_3.toList) = false := bne_eq_false_iff_eq.mpr c6
     clear c6
     obtain rfl := Option.some.inj H
     go_enter Try.func68, Try.ntmps68
     go_wp2_with (first | ((with_reducible refine gate_dst (N := 2) rfl ?_); refine zx (N := 2) (cs := #[.int .i64 a0_0, .string a0_1, .string a0_2, .string a0_3]) (t := 55) ?_; intro gb306 hg w7 hbox hb; have BK306 := Aside0.mk (hbox); have GW306 := zg HB hg; have GE306 := zg HB hg; replace HB := zs HB hb; clear hb hbox hg) | ((with_reducible refine gate_dst (N := 3) rfl ?_); refine zx (N := 3) (cs := #[.int .i64 a1_0, .string a1_1, .string a1_2, .string a1_3]) (t := 55) ?_; intro gb307 hg w8 hbox hb; have BK307 := Aside0.mk (hbox); have GW307 := zg HB hg; have GE307 := zg HB hg; replace HB := zs HB hb; have NB306_307 := zl BK306 hg; have NB307_306 := zr BK306 hg; replace BK306 := zb BK306 hb; clear hb hbox hg; have hnb9 := NB306_307.out; have hnc9 := NB307_306.out; obtain ⟨m10_0, m10_1, m10_2, m10_3, n10_0, n10_1, n10_2, n10_3⟩ := zc4 BK306; obtain ⟨m11_0, m11_1, m11_2, m11_3, n11_0, n11_1, n11_2, n11_3⟩ := zc4 BK307))
     go_ret
     exact ⟨ze, zw HB⟩
    rw [if_neg c6] at H
    have c6b0 : (a0_3.toList == a1_3.toList) = false := beq_eq_false_iff_ne.mpr c6
    have c6b1 : (a0_3.toList != a1_3.toList) = true := bne_iff_ne.mpr c6
    obtain rfl := Option.some.inj H
    go_enter Try.func68, Try.ntmps68
    go_wp2_with (first | ((with_reducible refine gate_dst (N := 2) rfl ?_); refine zx (N := 2) (cs := #[.int .i64 a0_0, .string a0_1, .string a0_2, .string a0_3]) (t := 55) ?_; intro gb306 hg w12 hbox hb; have BK306 := Aside0.mk (hbox); have GW306 := zg HB hg; have GE306 := zg HB hg; replace HB := zs HB hb; clear hb hbox hg) | ((with_reducible refine gate_dst (N := 3) rfl ?_); refine zx (N := 3) (cs := #[.int .i64 a1_0, .string a1_1, .string a1_2, .string a1_3]) (t := 55) ?_; intro gb307 hg w13 hbox hb; have BK307 := Aside0.mk (hbox); have GW307 := zg HB hg; have GE307 := zg HB hg; replace HB := zs HB hb; have NB306_307 := zl BK306 hg; have NB307_306 := zr BK306 hg; replace BK306 := zb BK306 hb; clear hb hbox hg; have hnb14 := NB306_307.out; have hnc14 := NB307_306.out; obtain ⟨m15_0, m15_1, m15_2, m15_3, n15_0, n15_1, n15_2, n15_3⟩ := zc4 BK306; obtain ⟨m16_0, m16_1, m16_2, m16_3, n16_0, n16_1, n16_2, n16_3⟩ := zc4 BK307))
    go_ret
    exact ⟨ze, zw HB⟩
   rw [if_neg c5] at H
   have c5b0 : (a0_2.toList == a1_2.toList) = false := beq_eq_false_iff_ne.mpr c5
   have c5b1 : (a0_2.toList != a1_2.toList) = true := bne_iff_ne.mpr c5
   obtain rfl := Option.some.inj H
   go_enter Try.func68, Try.ntmps68
   go_wp2_with (first | ((with_reducible refine gate_dst (N := 2) rfl ?_); refine zx (N := 2) (cs := #[.int .i64 a0_0, .string a0_1, .string a0_2, .string a0_3]) (t := 55) ?_; intro gb306 hg w17 hbox hb; have BK306 := Aside0.mk (hbox); have GW306 := zg HB hg; have GE306 := zg HB hg; replace HB := zs HB hb; clear hb hbox hg) | ((with_reducible refine gate_dst (N := 3) rfl ?_); refine zx (N := 3) (cs := #[.int .i64 a1_0, .string a1_1, .string a1_2, .string a1_3]) (t := 55) ?_; intro gb307 hg w18 hbox hb; have BK307 := Aside0.mk (hbox); have GW307 := zg HB hg; have GE307 := zg HB hg; replace HB := zs HB hb; have NB306_307 := zl BK306 hg; have NB307_306 := zr BK306 hg; replace BK306 := zb BK306 hb; clear hb hbox hg; have hnb19 := NB306_307.out; have hnc19 := NB307_306.out; obtain ⟨m20_0, m20_1, m20_2, m20_3, n20_0, n20_1, n20_2, n20_3⟩ := zc4 BK306; obtain ⟨m21_0, m21_1, m21_2, m21_3, n21_0, n21_1, n21_2, n21_3⟩ := zc4 BK307))
   go_ret
   exact ⟨ze, zw HB⟩
  rw [if_neg c4] at H
  have c4b0 : (a0_1.toList == a1_1.toList) = false := beq_eq_false_iff_ne.mpr c4
  have c4b1 : (a0_1.toList != a1_1.toList) = true := bne_iff_ne.mpr c4
  obtain rfl := Option.some.inj H
  go_enter Try.func68, Try.ntmps68
  go_wp2_with (first | ((with_reducible refine gate_dst (N := 2) rfl ?_); refine zx (N := 2) (cs := #[.int .i64 a0_0, .string a0_1, .string a0_2, .string a0_3]) (t := 55) ?_; intro gb306 hg w22 hbox hb; have BK306 := Aside0.mk (hbox); have GW306 := zg HB hg; have GE306 := zg HB hg; replace HB := zs HB hb; clear hb hbox hg) | ((with_reducible refine gate_dst (N := 3) rfl ?_); refine zx (N := 3) (cs := #[.int .i64 a1_0, .string a1_1, .string a1_2, .string a1_3]) (t := 55) ?_; intro gb307 hg w23 hbox hb; have BK307 := Aside0.mk (hbox); have GW307 := zg HB hg; have GE307 := zg HB hg; replace HB := zs HB hb; have NB306_307 := zl BK306 hg; have NB307_306 := zr BK306 hg; replace BK306 := zb BK306 hb; clear hb hbox hg; have hnb24 := NB306_307.out; have hnc24 := NB307_306.out; obtain ⟨m25_0, m25_1, m25_2, m25_3, n25_0, n25_1, n25_2, n25_3⟩ := zc4 BK306; obtain ⟨m26_0, m26_1, m26_2, m26_3, n26_0, n26_1, n26_2, n26_3⟩ := zc4 BK307))
  go_ret
  exact ⟨ze, zw HB⟩
 rw [if_neg c3] at H
 have c3b0 : (a0_0 == a1_0) = false := beq_eq_false_iff_ne.mpr c3
 have c3b1 : (a0_0 != a1_0) = true := bne_iff_ne.mpr c3
 obtain rfl := Option.some.inj H
 go_enter Try.func68, Try.ntmps68
 go_wp2_with (first | ((with_reducible refine gate_dst (N := 2) rfl ?_); refine zx (N := 2) (cs := #[.int .i64 a0_0, .string a0_1, .string a0_2, .string a0_3]) (t := 55) ?_; intro gb306 hg w27 hbox hb; have BK306 := Aside0.mk (hbox); have GW306 := zg HB hg; have GE306 := zg HB hg; replace HB := zs HB hb; clear hb hbox hg) | ((with_reducible refine gate_dst (N := 3) rfl ?_); refine zx (N := 3) (cs := #[.int .i64 a1_0, .string a1_1, .string a1_2, .string a1_3]) (t := 55) ?_; intro gb307 hg w28 hbox hb; have BK307 := Aside0.mk (hbox); have GW307 := zg HB hg; have GE307 := zg HB hg; replace HB := zs HB hb; have NB306_307 := zl BK306 hg; have NB307_306 := zr BK306 hg; replace BK306 := zb BK306 hb; clear hb hbox hg; have hnb29 := NB306_307.out; have hnc29 := NB307_306.out; obtain ⟨m30_0, m30_1, m30_2, m30_3, n30_0, n30_1, n30_2, n30_3⟩ := zc4 BK306; obtain ⟨m31_0, m31_1, m31_2, m31_3, n31_0, n31_1, n31_2, n31_3⟩ := zc4 BK307))
 go_ret
 exact ⟨ze, zw HB⟩

/-! ### laws_eqActS: function 42 -/
def laws_eqActS.l0 : Nat → List (S55) → List (S55) → Int → Option (Bool)
 | 0, _, _, _ => none
 | k + 1, x0, x1, x5 => if x5 < (x0.length : Int) then (if 0 ≤ x5 then (if x5 < (x1.length : Int) then ((laws_eqAct.f ((rd_T55 x0 x5).f0) ((rd_T55 x0 x5).f1) ((rd_T55 x0 x5).f2) ((rd_T55 x0 x5).f3) ((rd_T55 x1 x5).f0) ((rd_T55 x1 x5).f1) ((rd_T55 x1 x5).f2) ((rd_T55 x1 x5).f3)).bind fun t310 => (if t310 = true then (laws_eqActS.l0 k x0 x1 (wrap64 (x5 + 1))) else (some false))) else (none)) else (none)) else (some true)
def laws_eqActS.f (k : Nat) (l0 : List (S55)) (l1 : List (S55)) : Option (Bool) := if (l0.length : Int) = (l1.length : Int) then (laws_eqActS.l0 k l0 l1 0) else (some false)
theorem laws_eqActS.mono_l : ∀ k, (∀ y0 y1 y2, LeO (laws_eqActS.l0 k y0 y1 y2) (laws_eqActS.l0 (k + 1) y0 y1 y2))
 | 0 => fun _ _ _ r h => by simp [laws_eqActS.l0] at h
 | k + 1 => by
  have ih0 := laws_eqActS.mono_l k
  intro y0 y1 y2
  unfold laws_eqActS.l0
  repeat' first
  | (with_reducible exact ih0 _ _ _)
  | (with_reducible exact LeO.refl _)
  | (with_reducible exact LeO.none _)
  | (with_reducible refine LeO.ite ?_ ?_)
  | (with_reducible refine LeO.bind ?_ (fun _ => ?_))
  | exact ih0 _ _ _
  | exact LeO.none _
  | refine LeO.ite ?_ ?_
  | refine LeO.bind ?_ (fun _ => ?_)
theorem laws_eqActS.mono : ∀ a0 a1 k, LeO (laws_eqActS.f k a0 a1) (laws_eqActS.f (k + 1) a0 a1) := by
 intro a0 a1 k
 have ih0 := laws_eqActS.mono_l k
 unfold laws_eqActS.f
 repeat' first
   | (with_reducible exact ih0 _ _ _)
   | (with_reducible exact LeO.refl _)
   | (with_reducible exact LeO.none _)
   | (with_reducible refine LeO.ite ?_ ?_)
   | (with_reducible refine LeO.bind ?_ (fun _ => ?_))
   | exact ih0 _ _ _
   | exact LeO.none _
   | refine LeO.ite ?_ ?_
   | refine LeO.bind ?_ (fun _ => ?_)
def laws_eqActS.T6 : Bool × List (List Nat × List Nat) := (true, [([], []), ([], []), ([0, 1], [0, 1]), ([2], [2]), ([], []), ([], []), ([4, 5], [4, 5]), ([6], [6]), ([3, 7], [3, 7]), ([8], [8])])
def laws_eqActS.B6 : List Nat := [0, 0, 3, 7, 0, 0, 48, 112, 255, 511]
theorem laws_eqActS.tab6 : rtab .any (opsOf Try.f42 6) = laws_eqActS.T6 := by kernel_rfl
theorem laws_eqActS.bits6 : waitsOk laws_eqActS.T6.2 laws_eqActS.B6 = true := by kernel_rfl
abbrev q16_0 := #[o_,o_,o_,o_,o_,o_,o_,o_,o_,o_]
abbrev q16_1 := #[i_,o_,o_,o_,o_,o_,o_,o_,o_,o_]
abbrev q16_2 := #[i_,i_,o_,o_,o_,o_,o_,o_,o_,o_]
abbrev q16_3 := #[i_,i_,i_,o_,o_,o_,o_,o_,o_,o_]
abbrev q16_4 := #[i_,i_,i_,o_,i_,o_,o_,o_,o_,o_]
abbrev q16_5 := #[i_,i_,i_,o_,i_,i_,o_,o_,o_,o_]
abbrev q16_6 := #[i_,i_,i_,o_,i_,i_,i_,o_,o_,o_]
abbrev q16_7 := #[i_,i_,i_,i_,i_,i_,i_,o_,o_,o_]
abbrev q16_8 := #[i_,i_,i_,i_,i_,i_,i_,i_,o_,o_]
abbrev q16_9 := #[i_,i_,i_,i_,i_,i_,i_,i_,i_,o_]
abbrev q16_10 := #[i_,i_,i_,i_,i_,i_,i_,i_,i_,i_]
set_option maxHeartbeats 8000000 in
set_option maxRecDepth 100000 in
theorem laws_eqActS.calls (k : Nat) (A0 : Option Addr) (c0 : Nat) (l0 : List (S55)) (A1 : Option Addr) (c1 : Nat) (l1 : List (S55)) (r : Bool) (w : World) (hr0 : Kd.C k55 w A0 l0.length l0) (hc0 : l0.length ≤ c0) (hr1 : Kd.C k55 w A1 l1.length l1) (hc1 : l1.length ≤ c1) (h : laws_eqActS.f k l0 l1 = some r) :
  Calls Try.prog 42 #[.slice A0 l0.length c0, .slice A1 l1.length c1] w fun e w' => e = .returned (.bool r) ∧ Below w.heap.size w w' := by
 have hu55 := Try.underlying55
 have HR0 := Aside0.mk hr0
 have HC0 := Aside0.mk hc0
 clear hr0 hc0
 have HR1 := Aside0.mk hr1
 have HC1 := Aside0.mk hc1
 clear hr1 hc1
 have HB := Aside0.mk (Below.refl w.heap.size w)
 have H : (if (l0.length : Int) = (l1.length : Int) then (laws_eqActS.l0 k l0 l1 0) else (some false)) = some r := h
 clear h
 by_cases c3 : (l0.length : Int) = (l1.length : Int)
 ·rw [if_pos c3] at H
  have c3b0 : ((l0.length : Int) == (l1.length : Int)) = true := beq_iff_eq.mpr c3
  have c3b1 : ((l0.length : Int) != (l1.length : Int)) = false := bne_eq_false_iff_eq.mpr c3
  have c3b2 : (l0.length == l1.length) = true := by first | simpa using c3 | (simp at c3 ⊢; omega)
  clear c3
  have H' := Aside0.mk H
  clear H
  go_enter Try.func42, Try.ntmps42
  go_wp2
  go_loopg [5] k (fun kq v5 w' => ∃ (x5_1 : Int), v5 = .int .i64 x5_1 ∧ Aside0 (laws_eqActS.l0 kq l0 l1 x5_1 = some r) ∧ Aside0 (kq ≤ k) ∧ Aside0 (Below w.heap.size w w'))
  case atStart => exact ⟨(0), zf, H', ⟨Nat.le_refl _⟩, ⟨zw HB⟩⟩
  case round =>
   clear H'
   try clear c1
   try clear p2
   try clear c3
   try clear c3b0
   try clear c3b1
   try clear c3b2
   obtain ⟨x5_1, rfl, HA, HK1, HB⟩ := hrel
   cases gk with
   | zero => exact absurd HA.out (by simp [laws_eqActS.l0])
   | succ k1 =>
    have H := HA.out
    clear HA
    simp only [laws_eqActS.l0] at H
    by_cases c4 : x5_1 < (l0.length : Int)
    ·rw [if_pos c4] at H
     have c4b0 := decide_eq_true c4
     clear c4
     by_cases c5 : 0 ≤ x5_1
     ·rw [if_pos c5] at H
      have c5b0 := decide_eq_true c5
      clear c5
      by_cases c6 : x5_1 < (l1.length : Int)
      ·rw [if_pos c6] at H
       have c6b0 := decide_eq_true c6
       clear c6
       replace H := Option.bind_eq_some_iff.mp H
       obtain ⟨t310, A70, H⟩ := H
       have A7 := Aside0.mk A70
       clear A70
       by_cases c8 : t310 = true
       ·subst c8
        rw [if_pos rfl] at H
        have H' := Aside0.mk H
        clear H
        try go_wp2
        replace HB := Aside0.mk (below_drew1 HB.out)
        have p308 : 0 ≤ (x5_1 : Int) := of_decide_eq_true za
        have q308 : x5_1 < (l0.length : Int) := of_decide_eq_true za
        obtain ⟨ad308, e308, hx308_0, hx308_1, hx308_2, hx308_3⟩ := at_T55 HR0.out x5_1 p308 q308
        have hw308_3 := hx308_3
        have hw308_2 := hx308_2
        have hw308_1 := hx308_1
        have hw308_0 := hx308_0
        cases e308
        replace hx308_0 := zU HB.out hx308_0
        replace hx308_1 := zU HB.out hx308_1
        replace hx308_2 := zU HB.out hx308_2
        replace hx308_3 := zU HB.out hx308_3
        replace p308 := eq_true p308
        replace q308 := eq_true q308
        have p309 : 0 ≤ (x5_1 : Int) := of_decide_eq_true za
        have q309 : x5_1 < (l1.length : Int) := of_decide_eq_true za
        obtain ⟨ad309, e309, hx309_0, hx309_1, hx309_2, hx309_3⟩ := at_T55 HR1.out x5_1 p309 q309
        have hw309_3 := hx309_3
        have hw309_2 := hx309_2
        have hw309_1 := hx309_1
        have hw309_0 := hx309_0
        cases e309
        replace hx309_0 := zU HB.out hx309_0
        replace hx309_1 := zU HB.out hx309_1
        replace hx309_2 := zU HB.out hx309_2
        replace hx309_3 := zU HB.out hx309_3
        replace p309 := eq_true p309
        replace q309 := eq_true q309
        refine start_ (n := 10) (S := fun w' => w'.cell? (ad308.add ((x5_1).toNat * 4)) = some (.int .i64 ((rd_T55 l0 x5_1).f0)) ∧ w'.cell? ⟨(ad308.add ((x5_1).toNat * 4)).block, (ad308.add ((x5_1).toNat * 4)).off + 1, none⟩ = some (.string ((rd_T55 l0 x5_1).f1)) ∧ w'.cell? ⟨(ad308.add ((x5_1).toNat * 4)).block, (ad308.add ((x5_1).toNat * 4)).off + 2, none⟩ = some (.string ((rd_T55 l0 x5_1).f2)) ∧ w'.cell? ⟨(ad308.add ((x5_1).toNat * 4)).block, (ad308.add ((x5_1).toNat * 4)).off + 3, none⟩ = some (.string ((rd_T55 l0 x5_1).f3)) ∧ w'.cell? (ad309.add ((x5_1).toNat * 4)) = some (.int .i64 ((rd_T55 l1 x5_1).f0)) ∧ w'.cell? ⟨(ad309.add ((x5_1).toNat * 4)).block, (ad309.add ((x5_1).toNat * 4)).off + 1, none⟩ = some (.string ((rd_T55 l1 x5_1).f1)) ∧ w'.cell? ⟨(ad309.add ((x5_1).toNat * 4)).block, (ad309.add ((x5_1).toNat * 4)).off + 2, none⟩ = some (.string ((rd_T55 l1 x5_1).f2)) ∧ w'.cell? ⟨(ad309.add ((x5_1).toNat * 4)).block, (ad309.add ((x5_1).toNat * 4)).off + 3, none⟩ = some (.string ((rd_T55 l1 x5_1).f3))) (ds := []) q16_0 (by kernel_rfl) rfl rfl ⟨(zU HB.out hw308_0), (zU HB.out hw308_1), (zU HB.out hw308_2), (zU HB.out hw308_3), (zU HB.out hw309_0), (zU HB.out hw309_1), (zU HB.out hw309_2), (zU HB.out hw309_3)⟩ (fun hHeld => ?_); refine with_tabW laws_eqActS.tab6 laws_eqActS.bits6 (fun HT_ HW_ => ?_)
        generalize wr.drew = w9 at HB hx308_0 hx308_1 hx308_2 hx308_3 hx309_0 hx309_1 hx309_2 hx309_3 hHeld ⊢
        refine zP 0 (some 17) q16_1 HT_ ?_
        refine zP 1 (some 18) q16_2 HT_ ?_
        refine zP 2 (some 19) q16_3 HT_ ?_
        refine zP 4 (some 21) q16_4 HT_ ?_
        refine zP 5 (some 22) q16_5 HT_ ?_
        refine zP 6 (some 23) q16_6 HT_ ?_
        refine zT 3 (some 20) q16_7 HT_ HW_ hHeld ?_
        refine zT 7 (some 24) q16_8 HT_ HW_ hHeld ?_
        refine one_ (i := 8) (N := some 25) q16_9 rfl rfl (one_of HT_.out (by kernel_rfl)) (by decide) (fun K hK => ?_)
        refine zH Try.func68 #[.agg #[.int .i64 ((rd_T55 l0 x5_1).f0), .string ((rd_T55 l0 x5_1).f1), .string ((rd_T55 l0 x5_1).f2), .string ((rd_T55 l0 x5_1).f3)], .agg #[.int .i64 ((rd_T55 l1 x5_1).f0), .string ((rd_T55 l1 x5_1).f1), .string ((rd_T55 l1 x5_1).f2), .string ((rd_T55 l1 x5_1).f3)]] ?_
        with_reducible refine (laws_eqAct.calls ((rd_T55 l0 x5_1).f0) ((rd_T55 l0 x5_1).f1) ((rd_T55 l0 x5_1).f2) ((rd_T55 l0 x5_1).f3) ((rd_T55 l1 x5_1).f0) ((rd_T55 l1 x5_1).f1) ((rd_T55 l1 x5_1).f2) ((rd_T55 l1 x5_1).f3) true _ A7.out).mono ?_
        rintro e w10 ⟨rfl, hb⟩
        refine ⟨_, rfl, ?_⟩
        replace HB := zs HB hb
        (try clear hb)
        (try clear hb2)
        (try clear hk)
        (try clear hi)
        refine hK.out _ _ ⟨(zU HB.out hw308_0), (zU HB.out hw308_1), (zU HB.out hw308_2), (zU HB.out hw308_3), (zU HB.out hw309_0), (zU HB.out hw309_1), (zU HB.out hw309_2), (zU HB.out hw309_3)⟩ (fun hHeld => ?_)
        clear hK K
        refine zN ?_
        refine zP 9 (some 26) q16_10 HT_ ?_
        refine done_ (done_of HT_.out (by kernel_rfl)) ?_
        try go_wp2
        go_roundg k1
        case measure => have := HK1.out; omega
        case rel => exact ⟨(wrap64 (x5_1 + 1)), zf, H', ⟨by have := HK1.out; omega⟩, ⟨zw HB⟩⟩
       replace c8 := Bool.eq_false_iff.mpr c8
       subst c8
       rw [if_neg (show ¬ (false = true) by decide)] at H
       obtain rfl := Option.some.inj H
       try go_wp2
       replace HB := Aside0.mk (below_drew1 HB.out)
       have p308 : 0 ≤ (x5_1 : Int) := of_decide_eq_true za
       have q308 : x5_1 < (l0.length : Int) := of_decide_eq_true za
       obtain ⟨ad308, e308, hx308_0, hx308_1, hx308_2, hx308_3⟩ := at_T55 HR0.out x5_1 p308 q308
       have hw308_3 := hx308_3
       have hw308_2 := hx308_2
       have hw308_1 := hx308_1
       have hw308_0 := hx308_0
       cases e308
       replace hx308_0 := zU HB.out hx308_0
       replace hx308_1 := zU HB.out hx308_1
       replace hx308_2 := zU HB.out hx308_2
       replace hx308_3 := zU HB.out hx308_3
       replace p308 := eq_true p308
       replace q308 := eq_true q308
       have p309 : 0 ≤ (x5_1 : Int) := of_decide_eq_true za
       have q309 : x5_1 < (l1.length : Int) := of_decide_eq_true za
       obtain ⟨ad309, e309, hx309_0, hx309_1, hx309_2, hx309_3⟩ := at_T55 HR1.out x5_1 p309 q309
       have hw309_3 := hx309_3
       have hw309_2 := hx309_2
       have hw309_1 := hx309_1
       have hw309_0 := hx309_0
       cases e309
       replace hx309_0 := zU HB.out hx309_0
       replace hx309_1 := zU HB.out hx309_1
       replace hx309_2 := zU HB.out hx309_2
       replace hx309_3 := zU HB.out hx309_3
       replace p309 := eq_true p309
       replace q309 := eq_true q309
       refine start_ (n := 10) (S := fun w' => w'.cell? (ad308.add ((x5_1).toNat * 4)) = some (.int .i64 ((rd_T55 l0 x5_1).f0)) ∧ w'.cell? ⟨(ad308.add ((x5_1).toNat * 4)).block, (ad308.add ((x5_1).toNat * 4)).off + 1, none⟩ = some (.string ((rd_T55 l0 x5_1).f1)) ∧ w'.cell? ⟨(ad308.add ((x5_1).toNat * 4)).block, (ad308.add ((x5_1).toNat * 4)).off + 2, none⟩ = some (.string ((rd_T55 l0 x5_1).f2)) ∧ w'.cell? ⟨(ad308.add ((x5_1).toNat * 4)).block, (ad308.add ((x5_1).toNat * 4)).off + 3, none⟩ = some (.string ((rd_T55 l0 x5_1).f3)) ∧ w'.cell? (ad309.add ((x5_1).toNat * 4)) = some (.int .i64 ((rd_T55 l1 x5_1).f0)) ∧ w'.cell? ⟨(ad309.add ((x5_1).toNat * 4)).block, (ad309.add ((x5_1).toNat * 4)).off + 1, none⟩ = some (.string ((rd_T55 l1 x5_1).f1)) ∧ w'.cell? ⟨(ad309.add ((x5_1).toNat * 4)).block, (ad309.add ((x5_1).toNat * 4)).off + 2, none⟩ = some (.string ((rd_T55 l1 x5_1).f2)) ∧ w'.cell? ⟨(ad309.add ((x5_1).toNat * 4)).block, (ad309.add ((x5_1).toNat * 4)).off + 3, none⟩ = some (.string ((rd_T55 l1 x5_1).f3))) (ds := []) q16_0 (by kernel_rfl) rfl rfl ⟨(zU HB.out hw308_0), (zU HB.out hw308_1), (zU HB.out hw308_2), (zU HB.out hw308_3), (zU HB.out hw309_0), (zU HB.out hw309_1), (zU HB.out hw309_2), (zU HB.out hw309_3)⟩ (fun hHeld => ?_); refine with_tabW laws_eqActS.tab6 laws_eqActS.bits6 (fun HT_ HW_ => ?_)
       generalize wr.drew = w11 at HB hx308_0 hx308_1 hx308_2 hx308_3 hx309_0 hx309_1 hx309_2 hx309_3 hHeld ⊢
       refine zP 0 (some 17) q16_1 HT_ ?_
       refine zP 1 (some 18) q16_2 HT_ ?_
       refine zP 2 (some 19) q16_3 HT_ ?_
       refine zP 4 (some 21) q16_4 HT_ ?_
       refine zP 5 (some 22) q16_5 HT_ ?_
       refine zP 6 (some 23) q16_6 HT_ ?_
       refine zT 3 (some 20) q16_7 HT_ HW_ hHeld ?_
       refine zT 7 (some 24) q16_8 HT_ HW_ hHeld ?_
       refine one_ (i := 8) (N := some 25) q16_9 rfl rfl (one_of HT_.out (by kernel_rfl)) (by decide) (fun K hK => ?_)
       refine zH Try.func68 #[.agg #[.int .i64 ((rd_T55 l0 x5_1).f0), .string ((rd_T55 l0 x5_1).f1), .string ((rd_T55 l0 x5_1).f2), .string ((rd_T55 l0 x5_1).f3)], .agg #[.int .i64 ((rd_T55 l1 x5_1).f0), .string ((rd_T55 l1 x5_1).f1), .string ((rd_T55 l1 x5_1).f2), .string ((rd_T55 l1 x5_1).f3)]] ?_
       with_reducible refine (laws_eqAct.calls ((rd_T55 l0 x5_1).f0) ((rd_T55 l0 x5_1).f1) ((rd_T55 l0 x5_1).f2) ((rd_T55 l0 x5_1).f3) ((rd_T55 l1 x5_1).f0) ((rd_T55 l1 x5_1).f1) ((rd_T55 l1 x5_1).f2) ((rd_T55 l1 x5_1).f3) false _ A7.out).mono ?_
       rintro e w12 ⟨rfl, hb⟩
       refine ⟨_, rfl, ?_⟩
       replace HB := zs HB hb
       (try clear hb)
       (try clear hb2)
       (try clear hk)
       (try clear hi)
       refine hK.out _ _ ⟨(zU HB.out hw308_0), (zU HB.out hw308_1), (zU HB.out hw308_2), (zU HB.out hw308_3), (zU HB.out hw309_0), (zU HB.out hw309_1), (zU HB.out hw309_2), (zU HB.out hw309_3)⟩ (fun hHeld => ?_)
       clear hK K
       refine zN ?_
       refine zP 9 (some 26) q16_10 HT_ ?_
       refine done_ (done_of HT_.out (by kernel_rfl)) ?_
       try go_wp2
       go_ret
       exact ⟨ze, zw HB⟩
      rw [if_neg c6] at H
      exact absurd H (by simp)
     rw [if_neg c5] at H
     exact absurd H (by simp)
    rw [if_neg c4] at H
    have c4b0 := decide_eq_false c4
    clear c4
    obtain rfl := Option.some.inj H
    go_wp2
    go_ret
    exact ⟨ze, zw HB⟩
 rw [if_neg c3] at H
 have c3b0 : ((l0.length : Int) == (l1.length : Int)) = false := beq_eq_false_iff_ne.mpr c3
 have c3b1 : ((l0.length : Int) != (l1.length : Int)) = true := bne_iff_ne.mpr c3
 have c3b2 : (l0.length == l1.length) = false := by first | simpa using c3 | (simp at c3 ⊢; omega)
 obtain rfl := Option.some.inj H
 go_enter Try.func42, Try.ntmps42
 go_wp2
 go_ret
 exact ⟨ze, zw HB⟩

/-! ### laws_markActS: function 43 -/
def laws_markActS.l0 : Nat → List (S55) → Int → Int → Option (Int × (List (S55)))
 | 0, _, _, _ => none
 | k + 1, x0, x1, x5 => if x5 < (x0.length : Int) then (if 0 ≤ x5 then ((some (x0.set (x5 : Int).toNat (⟨x1, (rd_T55 x0 x5).f1, (rd_T55 x0 x5).f2, (rd_T55 x0 x5).f3⟩ : S55) : List (S55))).bind fun y311 => ((laws_markText.f k (wrap64 (x1 + 1))).bind fun t312 => ((some (y311.set (x5 : Int).toNat (⟨(rd_T55 y311 x5).f0, t312, (rd_T55 y311 x5).f2, (rd_T55 y311 x5).f3⟩ : S55) : List (S55))).bind fun y313 => ((laws_markText.f k (wrap64 ((wrap64 (x1 + 1)) + 1))).bind fun t314 => ((some (y313.set (x5 : Int).toNat (⟨(rd_T55 y313 x5).f0, (rd_T55 y313 x5).f1, t314, (rd_T55 y313 x5).f3⟩ : S55) : List (S55))).bind fun y315 => ((laws_markText.f k (wrap64 ((wrap64 ((wrap64 (x1 + 1)) + 1)) + 1))).bind fun t316 => (laws_markActS.l0 k (y315.set (x5 : Int).toNat (⟨(rd_T55 y315 x5).f0, (rd_T55 y315 x5).f1, (rd_T55 y315 x5).f2, t316⟩ : S55)) (wrap64 ((wrap64 ((wrap64 ((wrap64 (x1 + 1)) + 1)) + 1)) + 1)) (wrap64 (x5 + 1))))))))) else (none)) else (some (x1, x0))
def laws_markActS.f (k : Nat) (l0 : List (S55)) (a1 : Int) : Option (Int × (List (S55))) := laws_markActS.l0 k l0 a1 0
theorem laws_markActS.mono_l : ∀ k, (∀ y0 y1 y2, LeO (laws_markActS.l0 k y0 y1 y2) (laws_markActS.l0 (k + 1) y0 y1 y2))
 | 0 => fun _ _ _ r h => by simp [laws_markActS.l0] at h
 | k + 1 => by
  have ih0 := laws_markActS.mono_l k
  intro y0 y1 y2
  unfold laws_markActS.l0
  repeat' first
  | (with_reducible exact ih0 _ _ _)
  | (with_reducible exact laws_markText.mono _ _)
  | (with_reducible exact LeO.refl _)
  | (with_reducible exact LeO.none _)
  | (with_reducible refine LeO.ite ?_ ?_)
  | (with_reducible refine LeO.bind ?_ (fun _ => ?_))
  | exact ih0 _ _ _
  | exact laws_markText.mono _ _
  | exact LeO.none _
  | refine LeO.ite ?_ ?_
  | refine LeO.bind ?_ (fun _ => ?_)
theorem laws_markActS.mono : ∀ a0 a1 k, LeO (laws_markActS.f k a0 a1) (laws_markActS.f (k + 1) a0 a1) := by
 intro a0 a1 k
 have ih0 := laws_markActS.mono_l k
 unfold laws_markActS.f
 repeat' first
   | (with_reducible exact ih0 _ _ _)
   | (with_reducible exact laws_markText.mono _ _)
   | (with_reducible exact LeO.refl _)
   | (with_reducible exact LeO.none _)
   | (with_reducible refine LeO.ite ?_ ?_)
   | (with_reducible refine LeO.bind ?_ (fun _ => ?_))
   | exact ih0 _ _ _
   | exact laws_markText.mono _ _
   | exact LeO.none _
   | refine LeO.ite ?_ ?_
   | refine LeO.bind ?_ (fun _ => ?_)
set_option maxHeartbeats 8000000 in
set_option maxRecDepth 100000 in
theorem laws_markActS.calls (k : Nat) (P0_ : Nat → Prop) (u9000_ : Value) (l0 : List (S55)) (a1 : Int) (r1 : Int) (r2 : List (S55)) (w0 w : World) (hB : Below w0.heap.size w0 w) (ho0 : Kd.R k55 55 w w0.heap.size P0_ u9000_ l0) (h : laws_markActS.f k l0 a1 = some (r1, r2)) :
  Calls Try.prog 43 #[u9000_, .int .i64 a1] w fun e w' => e = .returned (.int .i64 r1) ∧ Kd.R k55 55 w' w0.heap.size (fun k_ => (P0_ k_ ∨ w.heap.size ≤ k_)) u9000_ r2 ∧ Below w0.heap.size w0 w' ∧ Kept w w' (fun k_ => P0_ k_) := by
 have HO0 := Aside0.mk (show Kd.R k55 55 w w0.heap.size (fun k_ => (P0_ k_ ∨ w.heap.size ≤ k_)) u9000_ l0 from Kd.R_mono ho0 (fun k_ hk => (.inl hk)))
 have HK := Aside0.mk (Kept.refl w (fun k_ => P0_ k_))
 have HW0 := Aside0.mk hB.size
 have HB := Aside0.mk hB
 clear hB
 have H : (laws_markActS.l0 k l0 a1 0) = some (r1, r2) := h
 clear h
 have H' := Aside0.mk H
 clear H
 go_enter Try.func43, Try.ntmps43
 go_wp2
 go_loopg [1, 5] k (fun kq v1 v5 w' => ∃ (x0_1 : List (S55)) (x1_1 : Int) (x5_1 : Int), v1 = .int .i64 x1_1 ∧ v5 = .int .i64 x5_1 ∧ Aside0 (laws_markActS.l0 kq x0_1 x1_1 x5_1 = some (r1, r2)) ∧ Aside0 (kq ≤ k) ∧ Aside0 (Kd.R k55 55 w' w0.heap.size (fun k_ => (P0_ k_ ∨ w.heap.size ≤ k_)) u9000_ x0_1) ∧ Aside0 (Kept w w' (fun k_ => P0_ k_)) ∧ Aside0 (Below w0.heap.size w0 w'))
 case atStart => exact ⟨(l0), (a1), (0), zf, zf, H', ⟨Nat.le_refl _⟩, ⟨zo HO0.out⟩, ⟨by repeat (first | (with_reducible first | exact HK.out | apply Kept.alloc | apply Kept.drewN | apply Kept.drew) | exact HK.out)⟩, ⟨zw HB⟩⟩
 case round =>
  clear H'
  try clear p2
  obtain ⟨x0_1, x1_1, x5_1, rfl, rfl, HA, HK1, HO_0, HK, HB⟩ := hrel
  cases gk with
  | zero => exact absurd HA.out (by simp [laws_markActS.l0])
  | succ k1 =>
   have H := HA.out
   clear HA
   simp only [laws_markActS.l0] at H
   by_cases c3 : x5_1 < (x0_1.length : Int)
   ·rw [if_pos c3] at H
    have c3b0 := decide_eq_true c3
    clear c3
    by_cases c4 : 0 ≤ x5_1
    ·rw [if_pos c4] at H
     have c4b0 := decide_eq_true c4
     clear c4
     obtain ⟨y311, hy311⟩ : ∃ y_ : List (S55), y_ = (x0_1.set (x5_1 : Int).toNat (⟨x1_1, (rd_T55 x0_1 x5_1).f1, (rd_T55 x0_1 x5_1).f2, (rd_T55 x0_1 x5_1).f3⟩ : S55)) := ⟨_, rfl⟩
     replace H : ((laws_markText.f k1 (wrap64 (x1_1 + 1))).bind fun t312 => ((some (y311.set (x5_1 : Int).toNat (⟨(rd_T55 y311 x5_1).f0, t312, (rd_T55 y311 x5_1).f2, (rd_T55 y311 x5_1).f3⟩ : S55) : List (S55))).bind fun y313 => ((laws_markText.f k1 (wrap64 ((wrap64 (x1_1 + 1)) + 1))).bind fun t314 => ((some (y313.set (x5_1 : Int).toNat (⟨(rd_T55 y313 x5_1).f0, (rd_T55 y313 x5_1).f1, t314, (rd_T55 y313 x5_1).f3⟩ : S55) : List (S55))).bind fun y315 => ((laws_markText.f k1 (wrap64 ((wrap64 ((wrap64 (x1_1 + 1)) + 1)) + 1))).bind fun t316 => (laws_markActS.l0 k1 (y315.set (x5_1 : Int).toNat (⟨(rd_T55 y315 x5_1).f0, (rd_T55 y315 x5_1).f1, (rd_T55 y315 x5_1).f2, t316⟩ : S55)) (wrap64 ((wrap64 ((wrap64 ((wrap64 (x1_1 + 1)) + 1)) + 1)) + 1)) (wrap64 (x5_1 + 1)))))))) = some (r1, r2) := by first | (rw [hy311]; with_reducible exact H) | (have H2_ := (Option.bind_some _ _).symm.trans H; rw [hy311]; with_reducible exact H2_) | (have H2_ := (Option.bind_some _ _).symm.trans H; with_reducible exact H2_) | with_reducible exact H | (rw [hy311]; exact H) | exact H
     have Ny311 := Aside0.mk hy311
     clear hy311
     replace H := Option.bind_eq_some_iff.mp H
     obtain ⟨t312, A60, H⟩ := H
     have A6 := Aside0.mk A60
     clear A60
     obtain ⟨y313, hy313⟩ : ∃ y_ : List (S55), y_ = (y311.set (x5_1 : Int).toNat (⟨(rd_T55 y311 x5_1).f0, t312, (rd_T55 y311 x5_1).f2, (rd_T55 y311 x5_1).f3⟩ : S55)) := ⟨_, rfl⟩
     replace H : ((laws_markText.f k1 (wrap64 ((wrap64 (x1_1 + 1)) + 1))).bind fun t314 => ((some (y313.set (x5_1 : Int).toNat (⟨(rd_T55 y313 x5_1).f0, (rd_T55 y313 x5_1).f1, t314, (rd_T55 y313 x5_1).f3⟩ : S55) : List (S55))).bind fun y315 => ((laws_markText.f k1 (wrap64 ((wrap64 ((wrap64 (x1_1 + 1)) + 1)) + 1))).bind fun t316 => (laws_markActS.l0 k1 (y315.set (x5_1 : Int).toNat (⟨(rd_T55 y315 x5_1).f0, (rd_T55 y315 x5_1).f1, (rd_T55 y315 x5_1).f2, t316⟩ : S55)) (wrap64 ((wrap64 ((wrap64 ((wrap64 (x1_1 + 1)) + 1)) + 1)) + 1)) (wrap64 (x5_1 + 1)))))) = some (r1, r2) := by first | (rw [hy313]; with_reducible exact H) | (have H2_ := (Option.bind_some _ _).symm.trans H; rw [hy313]; with_reducible exact H2_) | (have H2_ := (Option.bind_some _ _).symm.trans H; with_reducible exact H2_) | with_reducible exact H | (rw [hy313]; exact H) | exact H
     have Ny313 := Aside0.mk hy313
     clear hy313
     replace H := Option.bind_eq_some_iff.mp H
     obtain ⟨t314, A80, H⟩ := H
     have A8 := Aside0.mk A80
     clear A80
     obtain ⟨y315, hy315⟩ : ∃ y_ : List (S55), y_ = (y313.set (x5_1 : Int).toNat (⟨(rd_T55 y313 x5_1).f0, (rd_T55 y313 x5_1).f1, t314, (rd_T55 y313 x5_1).f3⟩ : S55)) := ⟨_, rfl⟩
     replace H : ((laws_markText.f k1 (wrap64 ((wrap64 ((wrap64 (x1_1 + 1)) + 1)) + 1))).bind fun t316 => (laws_markActS.l0 k1 (y315.set (x5_1 : Int).toNat (⟨(rd_T55 y315 x5_1).f0, (rd_T55 y315 x5_1).f1, (rd_T55 y315 x5_1).f2, t316⟩ : S55)) (wrap64 ((wrap64 ((wrap64 ((wrap64 (x1_1 + 1)) + 1)) + 1)) + 1)) (wrap64 (x5_1 + 1)))) = some (r1, r2) := by first | (rw [hy315]; with_reducible exact H) | (have H2_ := (Option.bind_some _ _).symm.trans H; rw [hy315]; with_reducible exact H2_) | (have H2_ := (Option.bind_some _ _).symm.trans H; with_reducible exact H2_) | with_reducible exact H | (rw [hy315]; exact H) | exact H
     have Ny315 := Aside0.mk hy315
     clear hy315
     replace H := Option.bind_eq_some_iff.mp H
     obtain ⟨t316, A100, H⟩ := H
     have A10 := Aside0.mk A100
     clear A100
     obtain ⟨y317, hy317⟩ : ∃ y_ : List (S55), y_ = (y315.set (x5_1 : Int).toNat (⟨(rd_T55 y315 x5_1).f0, (rd_T55 y315 x5_1).f1, (rd_T55 y315 x5_1).f2, t316⟩ : S55)) := ⟨_, rfl⟩
     replace H : (laws_markActS.l0 k1 y317 (wrap64 ((wrap64 ((wrap64 ((wrap64 (x1_1 + 1)) + 1)) + 1)) + 1)) (wrap64 (x5_1 + 1))) = some (r1, r2) := by first | (rw [hy317]; with_reducible exact H) | (have H2_ := (Option.bind_some _ _).symm.trans H; rw [hy317]; with_reducible exact H2_) | (have H2_ := (Option.bind_some _ _).symm.trans H; with_reducible exact H2_) | with_reducible exact H | (rw [hy317]; exact H) | exact H
     have Ny317 := Aside0.mk hy317
     clear hy317
     have H' := Aside0.mk H
     clear H
     obtain ⟨Ao12, co12, eo12⟩ := Kd.R_slice HO_0.out
     subst eo12
     have p5 : 0 ≤ (x5_1 : Int) := of_decide_eq_true za
     have q5 : (x5_1 : Int) < ((x0_1.length : Int) : Int) := of_decide_eq_true za
     obtain ⟨go5, co5, eo5, gb5, gl5, cl5, HG5⟩ := Kd.R_form HO_0.out (by omega)
     (first | cases eo5 | (injection eo5 with ea_ en_ ec_; (first | subst ea_ | (injection ea_ with ea_; subst ea_)); subst ec_; clear en_))
     have GB5 := Aside0.mk gb5
     have GG5 := Aside0.mk HG5
     clear gb5 gl5 HG5
     have HMgo5 := Aside0.mk (show (P0_ go5 ∨ w.heap.size ≤ go5) from (HO_0.out.1 _ rfl))
     obtain ⟨ce5, hcl5, hM5, hcc5, hfr5⟩ := Kd.R_elem HO_0.out z55 (x5_1 : Int) p5 q5
     obtain rfl := k55_openM hM5
     have hx5_0 : wr.cell? ⟨go5, (x5_1 : Int).toNat * 4, none⟩ = some (.int .i64 ((rd_T55 x0_1 x5_1).f0)) := hcc5 0 _ rfl
     have hx5_1 : wr.cell? ⟨go5, (x5_1 : Int).toNat * 4 + 1, none⟩ = some (.string ((rd_T55 x0_1 x5_1).f1)) := hcc5 1 _ rfl
     have hx5_2 : wr.cell? ⟨go5, (x5_1 : Int).toNat * 4 + 2, none⟩ = some (.string ((rd_T55 x0_1 x5_1).f2)) := hcc5 2 _ rfl
     have hx5_3 : wr.cell? ⟨go5, (x5_1 : Int).toNat * 4 + 3, none⟩ = some (.string ((rd_T55 x0_1 x5_1).f3)) := hcc5 3 _ rfl
     have hf5_0 : wr.frozen? ⟨go5, (x5_1 : Int).toNat * 4, none⟩ = false := hfr5 0
     have hf5_1 : wr.frozen? ⟨go5, (x5_1 : Int).toNat * 4 + 1, none⟩ = false := hfr5 1
     have hf5_2 : wr.frozen? ⟨go5, (x5_1 : Int).toNat * 4 + 2, none⟩ = false := hfr5 2
     have hf5_3 : wr.frozen? ⟨go5, (x5_1 : Int).toNat * 4 + 3, none⟩ = false := hfr5 3
     clear hcl5 hcc5 hfr5 hM5
     replace p5 := eq_true p5
     replace q5 := eq_true q5
     have HX13 := Aside0.mk (show Kd.R k55 55 wr w0.heap.size (fun k_ => (P0_ k_ ∨ w.heap.size ≤ k_)) (.slice (some ⟨go5, 0, none⟩) x0_1.length co12) x0_1 from (zo HO_0.out))
     obtain ⟨ce13, hcl13, hM13, hcc13, hfr13⟩ := Kd.R_elem HX13.out z55 (x5_1 : Int) (of_decide_eq_true za) (by have h_ : (x5_1 : Int) < ((x0_1.length : Int) : Int) := of_decide_eq_true za; first | exact h_ | (have e_ := (Kd.R_reads' HO_0.out).1; omega) | simpa using h_)
     obtain rfl := k55_openM hM13
     have HP13 := Kd.R_seg HX13.out (x5_1 : Int) (of_decide_eq_true za) (by have h_ : (x5_1 : Int) < ((x0_1.length : Int) : Int) := of_decide_eq_true za; first | exact h_ | (have e_ := (Kd.R_reads' HO_0.out).1; omega) | simpa using h_) (seg := [.int .i64 x1_1]) (j := 0) hcl13 hcc13 (show 1 ≤ 4 from by decide) (x' := (⟨x1_1, (rd_T55 x0_1 x5_1).f1, (rd_T55 x0_1 x5_1).f2, (rd_T55 x0_1 x5_1).f3⟩ : S55)) (k55_mkM _ _ _ (⟨x1_1, (rd_T55 x0_1 x5_1).f1, (rd_T55 x0_1 x5_1).f2, (rd_T55 x0_1 x5_1).f3⟩ : S55) ) (fun _ hk => hk)
     have hx13_0 := hcc13 0 _ rfl
     (try simp only [show (k55).sz = 4 from rfl, Nat.mul_one, Nat.add_zero] at hx13_0)
     have hf13_0 := hfr13 0
     (try simp only [show (k55).sz = 4 from rfl, Nat.mul_one, Nat.add_zero] at hf13_0)
     clear hcl13 hcc13 hfr13 hM13
     go_wp2_with (first | ((with_reducible refine gate_store (t := 3) (p := 16) rfl ?_); refine store_event (t := 3) (p := 16) (v := ?vo_w14) (w1 := (wr.setCell ⟨go5, (x5_1 : Int).toNat * 4, none⟩ (.int .i64 x1_1))) ?hg ?ho ?hn ?hr ?_; (case ho => rfl); (case hg => rfl); (case hn => rfl); (case hr => first | (go_simp; done) | (go_simp; rfl)); intro w14 hw; have hg : wr.grownBy w14 (some go5) := (by rw [hw]; exact HP13.2); have hp_ : Kd.R k55 55 w14 w0.heap.size (fun k_ => (P0_ k_ ∨ w.heap.size ≤ k_)) (.slice (some ⟨go5, 0, none⟩) x0_1.length co12) y311 := (by rw [hw, Ny311.out]; exact HP13.1); clear HP13; replace HB := Aside0.mk ((by rw [hw]; exact below_set (HB.out) GB5.out : Below w0.heap.size w0 w14)); replace HK := Aside0.mk (Kept.of_grown (S := (fun k_ => P0_ k_)) hg (by repeat (first | (with_reducible first | exact HK.out | apply Kept.alloc | apply Kept.drewN | apply Kept.drew) | exact HK.out)) (fun k_ e_ => (HO_0.out.1 k_ e_))); replace HO_0 := Aside0.mk (hp_); clear hg hw hp_) | ((with_reducible refine gate_callee (f := 69) rfl ?_); refine zG (some 22) Try.func69 #[.int .i64 (wrap64 (x1_1 + 1))] ?_; (with_reducible refine (laws_markText.calls k1 (wrap64 (x1_1 + 1)) t312 _ A6.out).mono ?_); rintro e w15 ⟨rfl, hb⟩; refine ⟨_, rfl, ?_⟩; replace HO_0 := zy HO_0 hb; replace HK := Aside0.mk (Kept.below (S := (fun k_ => P0_ k_)) (by repeat (first | (with_reducible first | exact HK.out | apply Kept.alloc | apply Kept.drewN | apply Kept.drew) | exact HK.out)) hb); replace HB := zs HB hb; clear hb; have p7 : 0 ≤ (x5_1 : Int) := of_decide_eq_true za; have q7 : (x5_1 : Int) < ((x0_1.length : Int) : Int) := of_decide_eq_true za; obtain ⟨ce7, hcl7, hM7, hcc7, hfr7⟩ := Kd.R_elem HO_0.out z55 (x5_1 : Int) p7 q7; obtain rfl := k55_openM hM7; have hx7_0 : w15.cell? ⟨go5, (x5_1 : Int).toNat * 4, none⟩ = some (.int .i64 ((rd_T55 y311 x5_1).f0)) := hcc7 0 _ rfl; have hx7_1 : w15.cell? ⟨go5, (x5_1 : Int).toNat * 4 + 1, none⟩ = some (.string ((rd_T55 y311 x5_1).f1)) := hcc7 1 _ rfl; have hx7_2 : w15.cell? ⟨go5, (x5_1 : Int).toNat * 4 + 2, none⟩ = some (.string ((rd_T55 y311 x5_1).f2)) := hcc7 2 _ rfl; have hx7_3 : w15.cell? ⟨go5, (x5_1 : Int).toNat * 4 + 3, none⟩ = some (.string ((rd_T55 y311 x5_1).f3)) := hcc7 3 _ rfl; have hf7_0 : w15.frozen? ⟨go5, (x5_1 : Int).toNat * 4, none⟩ = false := hfr7 0; have hf7_1 : w15.frozen? ⟨go5, (x5_1 : Int).toNat * 4 + 1, none⟩ = false := hfr7 1; have hf7_2 : w15.frozen? ⟨go5, (x5_1 : Int).toNat * 4 + 2, none⟩ = false := hfr7 2; have hf7_3 : w15.frozen? ⟨go5, (x5_1 : Int).toNat * 4 + 3, none⟩ = false := hfr7 3; clear hcl7 hcc7 hfr7 hM7; replace p7 := eq_true p7; replace q7 := eq_true q7; have HX16 := Aside0.mk (show Kd.R k55 55 w15 w0.heap.size (fun k_ => (P0_ k_ ∨ w.heap.size ≤ k_)) (.slice (some ⟨go5, 0, none⟩) x0_1.length co12) y311 from (zo HO_0.out)); obtain ⟨ce16, hcl16, hM16, hcc16, hfr16⟩ := Kd.R_elem HX16.out z55 (x5_1 : Int) (of_decide_eq_true za) (by have h_ : (x5_1 : Int) < ((x0_1.length : Int) : Int) := of_decide_eq_true za; first | exact h_ | (have e_ := (Kd.R_reads' HO_0.out).1; omega) | simpa using h_); obtain rfl := k55_openM hM16; have HP16 := Kd.R_seg HX16.out (x5_1 : Int) (of_decide_eq_true za) (by have h_ : (x5_1 : Int) < ((x0_1.length : Int) : Int) := of_decide_eq_true za; first | exact h_ | (have e_ := (Kd.R_reads' HO_0.out).1; omega) | simpa using h_) (seg := [.string t312]) (j := 1) hcl16 hcc16 (show 2 ≤ 4 from by decide) (x' := (⟨(rd_T55 y311 x5_1).f0, t312, (rd_T55 y311 x5_1).f2, (rd_T55 y311 x5_1).f3⟩ : S55)) (k55_mkM _ _ _ (⟨(rd_T55 y311 x5_1).f0, t312, (rd_T55 y311 x5_1).f2, (rd_T55 y311 x5_1).f3⟩ : S55) ) (fun _ hk => hk); have hx16_1 := hcc16 1 _ rfl; (try simp only [show (k55).sz = 4 from rfl, Nat.mul_one, Nat.add_zero] at hx16_1); have hf16_1 := hfr16 1; (try simp only [show (k55).sz = 4 from rfl, Nat.mul_one, Nat.add_zero] at hf16_1); clear hcl16 hcc16 hfr16 hM16) | ((with_reducible refine gate_store (t := 9) (p := 24) rfl ?_); refine store_event (t := 9) (p := 24) (v := ?vo_w17) (w1 := (w15.setCell ⟨go5, (x5_1 : Int).toNat * 4 + 1, none⟩ (.string t312))) ?hg ?ho ?hn ?hr ?_; (case ho => rfl); (case hg => rfl); (case hn => rfl); (case hr => first | (go_simp; done) | (go_simp; rfl)); intro w17 hw; have hg : w15.grownBy w17 (some go5) := (by rw [hw]; exact HP16.2); have hp_ : Kd.R k55 55 w17 w0.heap.size (fun k_ => (P0_ k_ ∨ w.heap.size ≤ k_)) (.slice (some ⟨go5, 0, none⟩) x0_1.length co12) y313 := (by rw [hw, Ny313.out]; exact HP16.1); clear HP16; replace HB := Aside0.mk ((by rw [hw]; exact below_set (HB.out) GB5.out : Below w0.heap.size w0 w17)); replace HK := Aside0.mk (Kept.of_grown (S := (fun k_ => P0_ k_)) hg (by repeat (first | (with_reducible first | exact HK.out | apply Kept.alloc | apply Kept.drewN | apply Kept.drew) | exact HK.out)) (fun k_ e_ => (HO_0.out.1 k_ e_))); replace HO_0 := Aside0.mk (hp_); clear hg hw hp_) | ((with_reducible refine gate_callee (f := 69) rfl ?_); refine zG (some 30) Try.func69 #[.int .i64 (wrap64 ((wrap64 (x1_1 + 1)) + 1))] ?_; (with_reducible refine (laws_markText.calls k1 (wrap64 ((wrap64 (x1_1 + 1)) + 1)) t314 _ A8.out).mono ?_); rintro e w18 ⟨rfl, hb⟩; refine ⟨_, rfl, ?_⟩; replace HO_0 := zy HO_0 hb; replace HK := Aside0.mk (Kept.below (S := (fun k_ => P0_ k_)) (by repeat (first | (with_reducible first | exact HK.out | apply Kept.alloc | apply Kept.drewN | apply Kept.drew) | exact HK.out)) hb); replace HB := zs HB hb; clear hb; have p9 : 0 ≤ (x5_1 : Int) := of_decide_eq_true za; have q9 : (x5_1 : Int) < ((x0_1.length : Int) : Int) := of_decide_eq_true za; obtain ⟨ce9, hcl9, hM9, hcc9, hfr9⟩ := Kd.R_elem HO_0.out z55 (x5_1 : Int) p9 q9; obtain rfl := k55_openM hM9; have hx9_0 : w18.cell? ⟨go5, (x5_1 : Int).toNat * 4, none⟩ = some (.int .i64 ((rd_T55 y313 x5_1).f0)) := hcc9 0 _ rfl; have hx9_1 : w18.cell? ⟨go5, (x5_1 : Int).toNat * 4 + 1, none⟩ = some (.string ((rd_T55 y313 x5_1).f1)) := hcc9 1 _ rfl; have hx9_2 : w18.cell? ⟨go5, (x5_1 : Int).toNat * 4 + 2, none⟩ = some (.string ((rd_T55 y313 x5_1).f2)) := hcc9 2 _ rfl; have hx9_3 : w18.cell? ⟨go5, (x5_1 : Int).toNat * 4 + 3, none⟩ = some (.string ((rd_T55 y313 x5_1).f3)) := hcc9 3 _ rfl; have hf9_0 : w18.frozen? ⟨go5, (x5_1 : Int).toNat * 4, none⟩ = false := hfr9 0; have hf9_1 : w18.frozen? ⟨go5, (x5_1 : Int).toNat * 4 + 1, none⟩ = false := hfr9 1; have hf9_2 : w18.frozen? ⟨go5, (x5_1 : Int).toNat * 4 + 2, none⟩ = false := hfr9 2; have hf9_3 : w18.frozen? ⟨go5, (x5_1 : Int).toNat * 4 + 3, none⟩ = false := hfr9 3; clear hcl9 hcc9 hfr9 hM9; replace p9 := eq_true p9; replace q9 := eq_true q9; have HX19 := Aside0.mk (show Kd.R k55 55 w18 w0.heap.size (fun k_ => (P0_ k_ ∨ w.heap.size ≤ k_)) (.slice (some ⟨go5, 0, none⟩) x0_1.length co12) y313 from (zo HO_0.out)); obtain ⟨ce19, hcl19, hM19, hcc19, hfr19⟩ := Kd.R_elem HX19.out z55 (x5_1 : Int) (of_decide_eq_true za) (by have h_ : (x5_1 : Int) < ((x0_1.length : Int) : Int) := of_decide_eq_true za; first | exact h_ | (have e_ := (Kd.R_reads' HO_0.out).1; omega) | simpa using h_); obtain rfl := k55_openM hM19; have HP19 := Kd.R_seg HX19.out (x5_1 : Int) (of_decide_eq_true za) (by have h_ : (x5_1 : Int) < ((x0_1.length : Int) : Int) := of_decide_eq_true za; first | exact h_ | (have e_ := (Kd.R_reads' HO_0.out).1; omega) | simpa using h_) (seg := [.string t314]) (j := 2) hcl19 hcc19 (show 3 ≤ 4 from by decide) (x' := (⟨(rd_T55 y313 x5_1).f0, (rd_T55 y313 x5_1).f1, t314, (rd_T55 y313 x5_1).f3⟩ : S55)) (k55_mkM _ _ _ (⟨(rd_T55 y313 x5_1).f0, (rd_T55 y313 x5_1).f1, t314, (rd_T55 y313 x5_1).f3⟩ : S55) ) (fun _ hk => hk); have hx19_2 := hcc19 2 _ rfl; (try simp only [show (k55).sz = 4 from rfl, Nat.mul_one, Nat.add_zero] at hx19_2); have hf19_2 := hfr19 2; (try simp only [show (k55).sz = 4 from rfl, Nat.mul_one, Nat.add_zero] at hf19_2); clear hcl19 hcc19 hfr19 hM19) | ((with_reducible refine gate_store (t := 9) (p := 32) rfl ?_); refine store_event (t := 9) (p := 32) (v := ?vo_w20) (w1 := (w18.setCell ⟨go5, (x5_1 : Int).toNat * 4 + 2, none⟩ (.string t314))) ?hg ?ho ?hn ?hr ?_; (case ho => rfl); (case hg => rfl); (case hn => rfl); (case hr => first | (go_simp; done) | (go_simp; rfl)); intro w20 hw; have hg : w18.grownBy w20 (some go5) := (by rw [hw]; exact HP19.2); have hp_ : Kd.R k55 55 w20 w0.heap.size (fun k_ => (P0_ k_ ∨ w.heap.size ≤ k_)) (.slice (some ⟨go5, 0, none⟩) x0_1.length co12) y315 := (by rw [hw, Ny315.out]; exact HP19.1); clear HP19; replace HB := Aside0.mk ((by rw [hw]; exact below_set (HB.out) GB5.out : Below w0.heap.size w0 w20)); replace HK := Aside0.mk (Kept.of_grown (S := (fun k_ => P0_ k_)) hg (by repeat (first | (with_reducible first | exact HK.out | apply Kept.alloc | apply Kept.drewN | apply Kept.drew) | exact HK.out)) (fun k_ e_ => (HO_0.out.1 k_ e_))); replace HO_0 := Aside0.mk (hp_); clear hg hw hp_) | ((with_reducible refine gate_callee (f := 69) rfl ?_); refine zG (some 38) Try.func69 #[.int .i64 (wrap64 ((wrap64 ((wrap64 (x1_1 + 1)) + 1)) + 1))] ?_; (with_reducible refine (laws_markText.calls k1 (wrap64 ((wrap64 ((wrap64 (x1_1 + 1)) + 1)) + 1)) t316 _ A10.out).mono ?_); rintro e w21 ⟨rfl, hb⟩; refine ⟨_, rfl, ?_⟩; replace HO_0 := zy HO_0 hb; replace HK := Aside0.mk (Kept.below (S := (fun k_ => P0_ k_)) (by repeat (first | (with_reducible first | exact HK.out | apply Kept.alloc | apply Kept.drewN | apply Kept.drew) | exact HK.out)) hb); replace HB := zs HB hb; clear hb; have p11 : 0 ≤ (x5_1 : Int) := of_decide_eq_true za; have q11 : (x5_1 : Int) < ((x0_1.length : Int) : Int) := of_decide_eq_true za; obtain ⟨ce11, hcl11, hM11, hcc11, hfr11⟩ := Kd.R_elem HO_0.out z55 (x5_1 : Int) p11 q11; obtain rfl := k55_openM hM11; have hx11_0 : w21.cell? ⟨go5, (x5_1 : Int).toNat * 4, none⟩ = some (.int .i64 ((rd_T55 y315 x5_1).f0)) := hcc11 0 _ rfl; have hx11_1 : w21.cell? ⟨go5, (x5_1 : Int).toNat * 4 + 1, none⟩ = some (.string ((rd_T55 y315 x5_1).f1)) := hcc11 1 _ rfl; have hx11_2 : w21.cell? ⟨go5, (x5_1 : Int).toNat * 4 + 2, none⟩ = some (.string ((rd_T55 y315 x5_1).f2)) := hcc11 2 _ rfl; have hx11_3 : w21.cell? ⟨go5, (x5_1 : Int).toNat * 4 + 3, none⟩ = some (.string ((rd_T55 y315 x5_1).f3)) := hcc11 3 _ rfl; have hf11_0 : w21.frozen? ⟨go5, (x5_1 : Int).toNat * 4, none⟩ = false := hfr11 0; have hf11_1 : w21.frozen? ⟨go5, (x5_1 : Int).toNat * 4 + 1, none⟩ = false := hfr11 1; have hf11_2 : w21.frozen? ⟨go5, (x5_1 : Int).toNat * 4 + 2, none⟩ = false := hfr11 2; have hf11_3 : w21.frozen? ⟨go5, (x5_1 : Int).toNat * 4 + 3, none⟩ = false := hfr11 3; clear hcl11 hcc11 hfr11 hM11; replace p11 := eq_true p11; replace q11 := eq_true q11; have HX22 := Aside0.mk (show Kd.R k55 55 w21 w0.heap.size (fun k_ => (P0_ k_ ∨ w.heap.size ≤ k_)) (.slice (some ⟨go5, 0, none⟩) x0_1.length co12) y315 from (zo HO_0.out)); obtain ⟨ce22, hcl22, hM22, hcc22, hfr22⟩ := Kd.R_elem HX22.out z55 (x5_1 : Int) (of_decide_eq_true za) (by have h_ : (x5_1 : Int) < ((x0_1.length : Int) : Int) := of_decide_eq_true za; first | exact h_ | (have e_ := (Kd.R_reads' HO_0.out).1; omega) | simpa using h_); obtain rfl := k55_openM hM22; have HP22 := Kd.R_seg HX22.out (x5_1 : Int) (of_decide_eq_true za) (by have h_ : (x5_1 : Int) < ((x0_1.length : Int) : Int) := of_decide_eq_true za; first | exact h_ | (have e_ := (Kd.R_reads' HO_0.out).1; omega) | simpa using h_) (seg := [.string t316]) (j := 3) hcl22 hcc22 (show 4 ≤ 4 from by decide) (x' := (⟨(rd_T55 y315 x5_1).f0, (rd_T55 y315 x5_1).f1, (rd_T55 y315 x5_1).f2, t316⟩ : S55)) (k55_mkM _ _ _ (⟨(rd_T55 y315 x5_1).f0, (rd_T55 y315 x5_1).f1, (rd_T55 y315 x5_1).f2, t316⟩ : S55) ) (fun _ hk => hk); have hx22_3 := hcc22 3 _ rfl; (try simp only [show (k55).sz = 4 from rfl, Nat.mul_one, Nat.add_zero] at hx22_3); have hf22_3 := hfr22 3; (try simp only [show (k55).sz = 4 from rfl, Nat.mul_one, Nat.add_zero] at hf22_3); clear hcl22 hcc22 hfr22 hM22) | ((with_reducible refine gate_store (t := 9) (p := 40) rfl ?_); refine store_event (t := 9) (p := 40) (v := ?vo_w23) (w1 := (w21.setCell ⟨go5, (x5_1 : Int).toNat * 4 + 3, none⟩ (.string t316))) ?hg ?ho ?hn ?hr ?_; (case ho => rfl); (case hg => rfl); (case hn => rfl); (case hr => first | (go_simp; done) | (go_simp; rfl)); intro w23 hw; have hg : w21.grownBy w23 (some go5) := (by rw [hw]; exact HP22.2); have hp_ : Kd.R k55 55 w23 w0.heap.size (fun k_ => (P0_ k_ ∨ w.heap.size ≤ k_)) (.slice (some ⟨go5, 0, none⟩) x0_1.length co12) y317 := (by rw [hw, Ny317.out]; exact HP22.1); clear HP22; replace HB := Aside0.mk ((by rw [hw]; exact below_set (HB.out) GB5.out : Below w0.heap.size w0 w23)); replace HK := Aside0.mk (Kept.of_grown (S := (fun k_ => P0_ k_)) hg (by repeat (first | (with_reducible first | exact HK.out | apply Kept.alloc | apply Kept.drewN | apply Kept.drew) | exact HK.out)) (fun k_ e_ => (HO_0.out.1 k_ e_))); replace HO_0 := Aside0.mk (hp_); clear hg hw hp_))
     go_roundg k1
     case measure => have := HK1.out; omega
     case rel => exact ⟨(y317), (wrap64 ((wrap64 ((wrap64 ((wrap64 (x1_1 + 1)) + 1)) + 1)) + 1)), (wrap64 (x5_1 + 1)), zf, zf, H', ⟨by have := HK1.out; omega⟩, ⟨zo HO_0.out⟩, ⟨by repeat (first | (with_reducible first | exact HK.out | apply Kept.alloc | apply Kept.drewN | apply Kept.drew) | exact HK.out)⟩, ⟨zw HB⟩⟩
    rw [if_neg c4] at H
    exact absurd H (by simp)
   rw [if_neg c3] at H
   have c3b0 := decide_eq_false c3
   clear c3
   simp only [Option.some.injEq, Prod.mk.injEq] at H
   obtain ⟨rfl, rfl⟩ := H
   obtain ⟨Ao24, co24, eo24⟩ := Kd.R_slice HO_0.out
   subst eo24
   go_wp2
   go_ret
   exact ⟨ze, zo HO_0.out, zw HB, by repeat (first | (with_reducible first | exact HK.out | apply Kept.alloc | apply Kept.drewN | apply Kept.drew) | exact HK.out)⟩

end Go.Proofs.Ytdiecogmaiglaaa.PFnExactDoActs
