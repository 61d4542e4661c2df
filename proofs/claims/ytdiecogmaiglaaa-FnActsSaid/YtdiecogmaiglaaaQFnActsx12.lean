import Derived.Test.YtdiecogmaiglaaaQFnActsx0
import Derived.Test.YtdiecogmaiglaaaQFnActsx11
namespace Go.Proofs.Ytdiecogmaiglaaa.PFnActs
open Go.RowKit Go.Proofs.YtdiecogmaiglaaaW.PrintWords Go.Proofs.YtdiecogmaiglaaaW.PrintLast Go.Proofs.YtdiecogmaiglaaaW.PrintMore
attribute [local go_sem] max2_int min2_int max_two min_two max_three min_three max_four min_four   -- for this text's walks alone
set_option linter.unusedVariables false
set_option linter.unusedSimpArgs false

/-! ### spec_DoActs: function 39 -/
def spec_DoActs.l0 : Nat → List (S55) → Int → List (S45) → Option ((List (S45)) × Int)
 | 0, _, _, _ => none
 | k + 1, x1, x7, x231000 => if x7 < (x1.length : Int) then (if 0 ≤ x7 then ((spec_DoAct.f k x231000 ((rd_T55 x1 x7).f0) ((rd_T55 x1 x7).f1) ((rd_T55 x1 x7).f2) ((rd_T55 x1 x7).f3)).bind fun bt232 => (if bt232.2 = true then (spec_DoActs.l0 k x1 (wrap64 (x7 + 1)) bt232.1) else (some (x231000, x7)))) else (none)) else (some (x231000, (x1.length : Int)))
def spec_DoActs.f (k : Nat) (l0_0 : List (S45)) (l1 : List (S55)) : Option ((List (S45)) × Int) := (some (([] : List (S45)) : List (S45))).bind fun y224 => (if y224.length + l0_0.length < 3518437208883 then (spec_DoActs.l0 k l1 0 (y224 ++ l0_0)) else (none))
theorem spec_DoActs.mono_l : ∀ k, (∀ y0 y1 y2, LeO (spec_DoActs.l0 k y0 y1 y2) (spec_DoActs.l0 (k + 1) y0 y1 y2))
 | 0 => fun _ _ _ r h => by simp [spec_DoActs.l0] at h
 | k + 1 => by
  have ih0 := spec_DoActs.mono_l k
  intro y0 y1 y2
  unfold spec_DoActs.l0
  repeat' first
  | (with_reducible exact ih0 _ _ _)
  | (with_reducible exact spec_DoAct.mono _ _ _ _ _ _)
  | (with_reducible exact LeO.refl _)
  | (with_reducible exact LeO.none _)
  | (with_reducible refine LeO.ite ?_ ?_)
  | (with_reducible refine LeO.bind ?_ (fun _ => ?_))
  | exact ih0 _ _ _
  | exact spec_DoAct.mono _ _ _ _ _ _
  | exact LeO.none _
  | refine LeO.ite ?_ ?_
  | refine LeO.bind ?_ (fun _ => ?_)
theorem spec_DoActs.mono : ∀ a0 a1 k, LeO (spec_DoActs.f k a0 a1) (spec_DoActs.f (k + 1) a0 a1) := by
 intro a0 a1 k
 have ih0 := spec_DoActs.mono_l k
 unfold spec_DoActs.f
 repeat' first
   | (with_reducible exact ih0 _ _ _)
   | (with_reducible exact spec_DoAct.mono _ _ _ _ _ _)
   | (with_reducible exact LeO.refl _)
   | (with_reducible exact LeO.none _)
   | (with_reducible refine LeO.ite ?_ ?_)
   | (with_reducible refine LeO.bind ?_ (fun _ => ?_))
   | exact ih0 _ _ _
   | exact spec_DoAct.mono _ _ _ _ _ _
   | exact LeO.none _
   | refine LeO.ite ?_ ?_
   | refine LeO.bind ?_ (fun _ => ?_)
def spec_DoActs.T5 : Bool × List (List Nat × List Nat) := (true, [([], []), ([], []), ([], []), ([1, 2], [1, 2]), ([3], [3]), ([0, 4], [0, 4]), ([5], [5]), ([6], [6]), ([6], [6]), ([], []), ([9, 7, 5, 0, 1, 2, 3, 4, 5, 6, 7, 9], [7, 9]), ([8, 10, 0, 1, 2, 3, 4, 5, 6, 7, 8, 9, 10], [8])])
def spec_DoActs.B5 : List Nat := [0, 0, 0, 6, 14, 31, 63, 127, 127, 0, 767, 2047]
theorem spec_DoActs.tab5 : rtab .any (opsOf Try.f39 5) = spec_DoActs.T5 := by kernel_rfl
theorem spec_DoActs.bits5 : waitsOk spec_DoActs.T5.2 spec_DoActs.B5 = true := by kernel_rfl
abbrev q12_0 := #[o_,o_,o_,o_,o_,o_,o_,o_,o_,o_,o_,o_]
abbrev q12_1 := #[o_,i_,o_,o_,o_,o_,o_,o_,o_,o_,o_,o_]
abbrev q12_2 := #[o_,i_,i_,o_,o_,o_,o_,o_,o_,o_,o_,o_]
abbrev q12_3 := #[o_,i_,i_,i_,o_,o_,o_,o_,o_,o_,o_,o_]
abbrev q12_4 := #[i_,i_,i_,i_,o_,o_,o_,o_,o_,o_,o_,o_]
abbrev q12_5 := #[i_,i_,i_,i_,i_,o_,o_,o_,o_,o_,o_,o_]
abbrev q12_6 := #[i_,i_,i_,i_,i_,i_,i_,i_,i_,i_,o_,o_]
abbrev q12_7 := #[i_,i_,i_,i_,i_,i_,o_,o_,o_,o_,o_,o_]
abbrev q12_8 := #[i_,i_,i_,i_,i_,o_,o_,o_,o_,i_,o_,o_]
abbrev q12_9 := #[i_,i_,i_,i_,i_,i_,i_,o_,o_,o_,o_,o_]
abbrev q12_10 := #[i_,i_,i_,i_,i_,i_,i_,i_,o_,o_,o_,o_]
abbrev q12_11 := #[i_,i_,i_,i_,i_,i_,i_,i_,i_,o_,o_,o_]
abbrev q12_12 := #[i_,i_,i_,i_,i_,i_,o_,o_,o_,i_,o_,o_]
abbrev q12_13 := #[i_,i_,i_,i_,i_,i_,i_,o_,o_,i_,o_,o_]
abbrev q12_14 := #[i_,i_,i_,i_,i_,i_,i_,i_,o_,i_,o_,o_]
abbrev q12_15 := #[i_,i_,i_,i_,i_,i_,i_,i_,i_,i_,i_,o_]
abbrev q12_16 := #[i_,i_,i_,i_,i_,i_,i_,i_,i_,i_,i_,i_]
set_option maxHeartbeats 8000000 in
set_option maxRecDepth 100000 in
theorem spec_DoActs.calls (k : Nat) (A0_0 : Option Addr) (c0_0 : Nat) (l0_0 : List (S45)) (A1 : Option Addr) (c1 : Nat) (l1 : List (S55)) (r1 : List (S45)) (r2 : Int) (w : World) (hr0_0 : Kd.C k45 w A0_0 l0_0.length l0_0) (hc0_0 : l0_0.length ≤ c0_0) (hr1 : Kd.C k55 w A1 l1.length l1) (hc1 : l1.length ≤ c1) (h : spec_DoActs.f k l0_0 l1 = some (r1, r2)) :
  Calls Try.prog 39 #[.agg #[.slice A0_0 l0_0.length c0_0], .slice A1 l1.length c1] w fun e w' => ∃ v0_ : Value, e = .returned (.tuple #[.agg #[v0_], .int .i64 r2]) ∧ Kd.R k45 45 w' w.heap.size (fun _ => True) v0_ r1 ∧ Below w.heap.size w w' := by
 have hu29 := Try.underlying29
 have hu55 := Try.underlying55
 have HR0_0 := Aside0.mk hr0_0
 have HC0_0 := Aside0.mk hc0_0
 clear hr0_0 hc0_0
 have HR1 := Aside0.mk hr1
 have HC1 := Aside0.mk hc1
 clear hr1 hc1
 have HB := Aside0.mk (Below.refl w.heap.size w)
 have H : ((some (([] : List (S45)) : List (S45))).bind fun Bt => (if Bt.length + l0_0.length < 3518437208883 then (spec_DoActs.l0 k l1 0 (Bt ++ l0_0)) else (none))) = some (r1, r2) := h
 clear h
 obtain ⟨Bt, B8⟩ : ∃ y_ : List (S45), y_ = (([] : List (S45))) := ⟨_, rfl⟩
 replace H : (if Bt.length + l0_0.length < 3518437208883 then (spec_DoActs.l0 k l1 0 (Bt ++ l0_0)) else (none)) = some (r1, r2) := zrw B8 H
 have Ny224 := Aside0.mk B8
 clear B8
 by_cases c3 : Bt.length + l0_0.length < 3518437208883
 ·rw [if_pos c3] at H
  have LMc3 := Aside0.mk c3
  clear c3
  obtain ⟨Ca, B2⟩ : ∃ y_ : List (S45), y_ = (Bt ++ l0_0) := ⟨_, rfl⟩
  replace H : (spec_DoActs.l0 k l1 0 Ca) = some (r1, r2) := zrw B2 H
  have Ny227 := Aside0.mk B2
  clear B2
  have H' := Aside0.mk H
  clear H
  go_enter Try.func39, Try.ntmps39
  go_wp2_with (first | ((with_reducible refine gate_dst (N := 2) rfl ?_); refine zx (N := 2) (cs := #[.slice A0_0 l0_0.length c0_0]) (t := 29) ?_; intro Be hg w4 hbox hb; have Af := Aside0.mk (hbox); have GW222 := zg HB hg; have GE222 := zg HB hg; replace HB := zs HB hb; clear hb hbox hg) | ((with_reducible refine gate_dst (N := 4) rfl ?_); refine zx (N := 4) (cs := #[.slice none 0 0]) (t := 29) ?_; intro Ay hg w5 hbox hb; have Ae := Aside0.mk (hbox); have GW223 := zg HB hg; have GE223 := zg HB hg; replace HB := zs HB hb; have Bo := zl Af hg; have Bn := zr Af hg; replace Af := zb Af hb; clear hb hbox hg) | ((with_reducible refine gate_dst (N := 10) rfl ?_); refine Kd.R_lit k45 _ 45 ?hg (N := 10) ?hd (xs := ([] : List (S45))) (inner := []) (ok := fun _ => True) (okp := fun _ => True) ?hr ?hp (fun _ hk => hk) trivial (Below.refl _ _) (Nat.le_refl _) (by simp) ?_; (case hd => rfl); (case hg => rfl); (case hr => first | (go_simp; done) | (go_simp; rfl)); (case hp => exact (Reps.none _ _)); intro Cu w6 Ci hb hg_ hnew_; clear hg_ hnew_; (first | rw [← Ny224.out] at Ci | (simp only [Int.reduceToNat] at Ci; rw [← Ny224.out] at Ci)); have Bz := Aside0.mk (Kd.R_lower Ci (below_size (zw HB))); replace Af := zb Af hb; replace Ae := zb Ae hb; replace HB := zs HB hb; clear hb Ci; have hnb8 := Bo.out; have hnc8 := Bn.out; obtain ⟨Cw, Cv⟩ := zc1 Af) | ((with_reducible refine gate_builtin (b := .append) (xs := #[.tmp 10, .tmp 12]) rfl ?_); at_builtin; refine Kd.R_append_rows k45 (w0 := w) w.heap.size rfl (.tmp 10) (.tmp 12) 27 45 (.agg #[(.string ⟨#[]⟩), (.string ⟨#[]⟩), (.int .i64 0)]) 40 rfl Try.underlying27 info45 rfl (by decide) (by omega) Cu Bt l0_0 _ _ _ (fun _ => True) (fun _ => False) rfl rfl ?aO ?aR (fun _ _ h => h) (fun _ h => h.elim) ?aF ?aB ?aS ?aL ?_; (case aR => exact zI (Kd.C_below HR0_0.out HB.out)); (case aB => exact (zw HB)); (case aF => exact (fun _ _ => trivial)); (case aO => exact (zo Bz.out)); (case aS => exact (below_size (zw HB))); (case aL => have := LMc3.out; omega); intro v228 w10 ho hb hg hat; rw [← Ny227.out] at ho; replace Af := zbg Af hg Bz; replace Ae := zbg Ae hg Bz; replace HB := Aside0.mk (hb); have Bx := Aside0.mk (ho); clear Bz; clear ho hb hg hat; obtain ⟨Cp, Cm, C0⟩ := Kd.R_slice Bx.out; subst C0) | ((with_reducible refine gate_dst (N := 6) rfl ?_); refine zx (N := 6) (cs := #[.slice none 0 0]) (t := 29) ?_; intro Aw hg w12 hbox hb; replace Bx := zy Bx hb; have Ad := Aside0.mk (hbox); have GW230 := zg HB hg; have GE230 := zg HB hg; replace HB := zs HB hb; have Bi := zl Af hg; have Bg := zr Af hg; replace Af := zb Af hb; have Bh := zl Ae hg; have Bf := zr Ae hg; replace Ae := zb Ae hb; clear hb hbox hg; have hnb13 := Bg.out; have hnc13 := Bi.out; have hnb14 := Bf.out; have hnc14 := Bh.out; obtain ⟨Ch, Cg⟩ := zc1 Ad))
  go_loopg [7] k (fun kq v7 w' => ∃ (Ac : Int) (Ab : List (S45)) (Bs : Value), v7 = .int .i64 Ac ∧ Aside0 (spec_DoActs.l0 kq l1 Ac Ab = some (r1, r2)) ∧ Aside0 (kq ≤ k) ∧ Aside0 (Kd.R k45 45 w' w.heap.size (fun _ => True) Bs Ab) ∧ Aside0 (w'.heap[Be]? = some (.cells #[(.slice A0_0 l0_0.length c0_0)] 29 (0, 0))) ∧ Aside0 (w'.heap[Ay]? = some (.cells #[(.slice none 0 0)] 29 (0, 0))) ∧ Aside0 (w'.heap[Aw]? = some (.cells #[Bs] 29 (0, 0))) ∧ Aside0 (Below w.heap.size w w'))
  case atStart => exact ⟨(0), (Ca), (.slice Cp Ca.length Cm), zf, H', ⟨Nat.le_refl _⟩, ⟨zo (Kd.R_mono (Kd.R_far (p := ⟨Aw, 0, none⟩) (Kd.R_types Bx.out Ad.out (by decide)) (fun _ hk => hk.2) (.slice Cp Ca.length Cm)) (fun _ hk => trivial))⟩, ⟨zkf Af⟩, ⟨zkf Ae⟩, ⟨zj Ad⟩, ⟨zw HB⟩⟩
  case round =>
   clear H'
   try clear c1
   try clear p2
   try clear c3
   try clear c8
   try clear c13
   try clear c14
   try clear Ch
   try clear Cw
   try clear Cg
   try clear Cv
   obtain ⟨Ac, Ab, Bs, rfl, HA, C3, Aa, Af, Ae, Ad, HB⟩ := hrel
   cases gk with
   | zero => exact absurd HA.out (by simp [spec_DoActs.l0])
   | succ k1 =>
    have H := HA.out
    clear HA
    simp only [spec_DoActs.l0] at H
    by_cases Ce : Ac < (l1.length : Int)
    ·rw [if_pos Ce] at H
     have Cn := decide_eq_true Ce
     clear Ce
     by_cases Cs : 0 ≤ Ac
     ·rw [if_pos Cs] at H
      have c17b0 := decide_eq_true Cs
      clear Cs
      replace H := Option.bind_eq_some_iff.mp H
      obtain ⟨⟨Bj, Cf⟩, Cq, H⟩ := H
      replace H : (if Cf = true then (spec_DoActs.l0 k1 l1 (wrap64 (Ac + 1)) Bj) else (some (Ab, Ac))) = some (r1, r2) := H
      have Ct := Aside0.mk Cq
      clear Cq
      by_cases Cr : Cf = true
      ·subst Cr
       rw [if_pos rfl] at H
       have H' := Aside0.mk H
       clear H
       obtain ⟨Br, Bq, Cz⟩ := Kd.R_slice Aa.out
       subst Cz
       try go_wp2
       replace Aa := zd3 Aa
       replace Af := zd1 Af
       replace Ae := zd1 Ae
       replace Ad := zd1 Ad
       replace HB := zd2 HB
       have Bv : 0 ≤ (Ac : Int) := of_decide_eq_true za
       have Bu : Ac < (l1.length : Int) := of_decide_eq_true za
       obtain ⟨Ag, Cb, Bd, Bc, Bb, Ba⟩ := at_T55 HR1.out Ac Bv Bu
       have Ak := Ba
       have Al := Bb
       have Am := Bc
       have Ao := Bd
       cases Cb
       replace Bd := zU HB.out Bd
       replace Bc := zU HB.out Bc
       replace Bb := zU HB.out Bb
       replace Ba := zU HB.out Ba
       replace Bv := eq_true Bv
       replace Bu := eq_true Bu
       refine start_ (n := 12) (S := fun w' => w'.cell? ⟨Aw, 0, none⟩ = some (.slice Br Ab.length Bq) ∧ w'.cell? (Ag.add ((Ac).toNat * 4)) = some (.int .i64 ((rd_T55 l1 Ac).f0)) ∧ w'.cell? ⟨(Ag.add ((Ac).toNat * 4)).block, (Ag.add ((Ac).toNat * 4)).off + 1, none⟩ = some (.string ((rd_T55 l1 Ac).f1)) ∧ w'.cell? ⟨(Ag.add ((Ac).toNat * 4)).block, (Ag.add ((Ac).toNat * 4)).off + 2, none⟩ = some (.string ((rd_T55 l1 Ac).f2)) ∧ w'.cell? ⟨(Ag.add ((Ac).toNat * 4)).block, (Ag.add ((Ac).toNat * 4)).off + 3, none⟩ = some (.string ((rd_T55 l1 Ac).f3))) (ds := []) q12_0 (by kernel_rfl) rfl rfl ⟨zv Ad, (zU HB.out Ao), (zU HB.out Am), (zU HB.out Al), (zU HB.out Ak)⟩ (fun hHeld => ?_); refine with_tabW spec_DoActs.tab5 spec_DoActs.bits5 (fun HT_ HW_ => ?_)
       generalize wr.drew = w21 at Aa Af Ae Ad HB Bd Bc Bb Ba hHeld ⊢
       refine zP 1 (some 23) q12_1 HT_ ?_
       refine zP 2 (some 24) q12_2 HT_ ?_
       refine zP 3 (some 25) q12_3 HT_ ?_
       refine zT 0 (some 22) q12_4 HT_ HW_ hHeld ?_
       refine zT 4 (some 26) q12_5 HT_ HW_ hHeld ?_
       refine join_ (σ := Value × Nat) 2 q12_6 (fun s_ => [(27, .tuple #[.agg #[s_.1], .bool true]), (8, .pointer (some ⟨s_.2, 0, none⟩)), (21, .tuple #[.agg #[s_.1], .bool true]), (28, .agg #[s_.1]), (29, .bool true)]) (fun s_ w' => (w'.cell? ⟨Aw, 0, none⟩ = some (.slice Br Ab.length Bq) ∧ w'.cell? (Ag.add ((Ac).toNat * 4)) = some (.int .i64 ((rd_T55 l1 Ac).f0)) ∧ w'.cell? ⟨(Ag.add ((Ac).toNat * 4)).block, (Ag.add ((Ac).toNat * 4)).off + 1, none⟩ = some (.string ((rd_T55 l1 Ac).f1)) ∧ w'.cell? ⟨(Ag.add ((Ac).toNat * 4)).block, (Ag.add ((Ac).toNat * 4)).off + 2, none⟩ = some (.string ((rd_T55 l1 Ac).f2)) ∧ w'.cell? ⟨(Ag.add ((Ac).toNat * 4)).block, (Ag.add ((Ac).toNat * 4)).off + 3, none⟩ = some (.string ((rd_T55 l1 Ac).f3))) ∧ (Kd.R k45 45 w' w.heap.size (fun k_ => some k_ ≠ (.slice Br Ab.length Bq : Value).ownBlock) s_.1 Bj) ∧ (Kd.R k45 45 w' w.heap.size (fun k_ => some k_ ≠ (s_.1 : Value).ownBlock) (.slice Br Ab.length Bq) Ab) ∧ (w'.heap[Be]? = some (.cells #[.slice A0_0 l0_0.length c0_0] 29 (0, 0))) ∧ (w'.heap[Ay]? = some (.cells #[.slice none 0 0] 29 (0, 0))) ∧ (w'.heap[Aw]? = some (.cells #[.slice Br Ab.length Bq] 29 (0, 0))) ∧ (w'.heap[s_.2]? = some (.cells #[.slice none 0 0] 29 (0, 0))) ∧ (w.heap.size ≤ s_.2) ∧ (w.heap.size ≤ s_.2) ∧ (Be ≠ s_.2) ∧ (s_.2 ≠ Be) ∧ (Ay ≠ s_.2) ∧ (s_.2 ≠ Ay) ∧ (Aw ≠ s_.2) ∧ (s_.2 ≠ Aw) ∧ (Below w.heap.size w w')) ?_ ?_
       rotate_left
       ·intro hCont
        refine two_ (i := 5) (j := 9) (Ni := some 27) (Nj := some 8) q12_7 q12_8 rfl rfl rfl rfl (two_of HT_.out (by kernel_rfl)) (by decide) (by decide) (fun K hK => ?_) (fun K hK => ?_)
        ·skip
         refine zH Try.func35 #[.agg #[.slice Br Ab.length Bq], .agg #[.int .i64 ((rd_T55 l1 Ac).f0), .string ((rd_T55 l1 Ac).f1), .string ((rd_T55 l1 Ac).f2), .string ((rd_T55 l1 Ac).f3)]] ?_
         with_reducible refine (spec_DoAct.calls k1 _ _ Ab ((rd_T55 l1 Ac).f0) ((rd_T55 l1 Ac).f1) ((rd_T55 l1 Ac).f2) ((rd_T55 l1 Ac).f3) Bj true _ ?side1 ?side2 Ct.out).mono ?_
         (case side1 => exact zI (Kd.R_reads' Aa.out).2.2)
         (case side2 => exact (Kd.R_reads' Aa.out).2.1)
         rintro e C7 ⟨Bl, rfl, Bw, hb⟩
         refine ⟨_, rfl, ?_⟩
         have Az := Aside0.mk (Kd.R_lower (Kd.R_new' Bw (Kd.R_lt (zo Aa.out))) (below_size (zw HB)))
         replace Aa := Aside0.mk (Kd.R_elder' (zo Aa.out) (Kd.R_base Bw) hb)
         replace Af := zb Af hb
         replace Ae := zb Ae hb
         replace Ad := zb Ad hb
         replace HB := zs HB hb
         (try clear hb)
         (try clear hb2)
         (try clear hk)
         (try clear hi)
         (try clear Bw)
         refine hK.out _ _ ⟨zv Ad, (zU HB.out Ao), (zU HB.out Am), (zU HB.out Al), (zU HB.out Ak)⟩ (fun hHeld => ?_)
         clear hK K
         refine zN ?_
         refine zP 6 (some 21) q12_9 HT_ ?_
         refine zP 7 (some 28) q12_10 HT_ ?_
         refine zP 8 (some 29) q12_11 HT_ ?_
         refine one_ (i := 9) (N := some 8) q12_6 rfl rfl (one_of HT_.out (by kernel_rfl)) (by decide) (fun K hK => ?_)
         refine box_step ?hg (N := 8) ?hd (cs := #[.slice none 0 0]) (t := 29) ?hr ?_; (case hd => rfl); (case hg => rfl); (case hr => first | (go_simp; done) | (go_simp; rfl))
         intro Ah hg C6 hbox hb
         replace Aa := zy Aa hb
         replace Az := zy Az hb
         have Ax := Aside0.mk (hbox)
         have Ai := zg HB hg
         have Bk := zg HB hg
         replace HB := zs HB hb
         have Au := zl Af hg
         have As := zr Af hg
         replace Af := zb Af hb
         have Ar := zl Ae hg
         have Aq := zr Ae hg
         replace Ae := zb Ae hb
         have Aj := zl Ad hg
         have Ap := zr Ad hg
         replace Ad := zb Ad hb
         clear hb hbox hg
         refine hK.out _ _ ⟨zv Ad, (zU HB.out Ao), (zU HB.out Am), (zU HB.out Al), (zU HB.out Ak)⟩ (fun hHeld => ?_)
         clear hK K
         refine zN ?_
         exact norm_ (by simp only [putAll, Act.put, zA, zB, zC]) (hCont (Bl, Ah) _ ⟨hHeld, (zo (Kd.R_mono Az.out (fun _ hk => hk.2))), (zo (Kd.R_mono Aa.out (fun _ hk => hk.2))), (zk Af), (zk Ae), (zk Ad), (zk Ax), Ai.out, Bk.out, Au.out, As.out, Ar.out, Aq.out, Aj.out, Ap.out, (zw HB)⟩)
        refine box_step ?hg (N := 8) ?hd (cs := #[.slice none 0 0]) (t := 29) ?hr ?_; (case hd => rfl); (case hg => rfl); (case hr => first | (go_simp; done) | (go_simp; rfl))
        intro Ah hg C7 hbox hb
        replace Aa := zy Aa hb
        have Ax := Aside0.mk (hbox)
        have Ai := zg HB hg
        have Bk := zg HB hg
        replace HB := zs HB hb
        have Au := zl Af hg
        have As := zr Af hg
        replace Af := zb Af hb
        have Ar := zl Ae hg
        have Aq := zr Ae hg
        replace Ae := zb Ae hb
        have Aj := zl Ad hg
        have Ap := zr Ad hg
        replace Ad := zb Ad hb
        clear hb hbox hg
        refine hK.out _ _ ⟨zv Ad, (zU HB.out Ao), (zU HB.out Am), (zU HB.out Al), (zU HB.out Ak)⟩ (fun hHeld => ?_)
        clear hK K
        refine zN ?_
        refine one_ (i := 5) (N := some 27) q12_12 rfl rfl (one_of HT_.out (by kernel_rfl)) (by decide) (fun K hK => ?_)
        refine zH Try.func35 #[.agg #[.slice Br Ab.length Bq], .agg #[.int .i64 ((rd_T55 l1 Ac).f0), .string ((rd_T55 l1 Ac).f1), .string ((rd_T55 l1 Ac).f2), .string ((rd_T55 l1 Ac).f3)]] ?_
        with_reducible refine (spec_DoAct.calls k1 _ _ Ab ((rd_T55 l1 Ac).f0) ((rd_T55 l1 Ac).f1) ((rd_T55 l1 Ac).f2) ((rd_T55 l1 Ac).f3) Bj true _ ?side1 ?side2 Ct.out).mono ?_
        (case side1 => exact zI (Kd.R_reads' Aa.out).2.2)
        (case side2 => exact (Kd.R_reads' Aa.out).2.1)
        rintro e C6 ⟨Bl, rfl, Bw, hb⟩
        refine ⟨_, rfl, ?_⟩
        have Az := Aside0.mk (Kd.R_lower (Kd.R_new' Bw (Kd.R_lt (zo Aa.out))) (below_size (zw HB)))
        replace Aa := Aside0.mk (Kd.R_elder' (zo Aa.out) (Kd.R_base Bw) hb)
        replace Af := zb Af hb
        replace Ae := zb Ae hb
        replace Ad := zb Ad hb
        replace Ax := zb Ax hb
        replace HB := zs HB hb
        (try clear hb)
        (try clear hb2)
        (try clear hk)
        (try clear hi)
        (try clear Bw)
        refine hK.out _ _ ⟨zv Ad, (zU HB.out Ao), (zU HB.out Am), (zU HB.out Al), (zU HB.out Ak)⟩ (fun hHeld => ?_)
        clear hK K
        refine zN ?_
        refine zP 6 (some 21) q12_13 HT_ ?_
        refine zP 7 (some 28) q12_14 HT_ ?_
        refine zP 8 (some 29) q12_6 HT_ ?_
        exact norm_ (by simp only [putAll, Act.put, zA, zB, zC]) (hCont (Bl, Ah) _ ⟨hHeld, (zo (Kd.R_mono Az.out (fun _ hk => hk.2))), (zo (Kd.R_mono Aa.out (fun _ hk => hk.2))), (zk Af), (zk Ae), (zk Ad), (zk Ax), Ai.out, Bk.out, Au.out, As.out, Ar.out, Aq.out, Aj.out, Ap.out, (zw HB)⟩)
       rintro ⟨Bl, Ah⟩ B1 ⟨hS_, h0_, h1_, h2_, h3_, h4_, h5_, h6_, h7_, h8_, h9_, h10_, h11_, h12_, h13_, h14_⟩
       have n0_ : Aside0 (Kd.R k45 45 B1 w.heap.size (fun k_ => some k_ ≠ (.slice Br Ab.length Bq : Value).ownBlock) Bl Bj) := ⟨h0_⟩
       have n1_ : Aside0 (Kd.R k45 45 B1 w.heap.size (fun k_ => some k_ ≠ (Bl : Value).ownBlock) (.slice Br Ab.length Bq) Ab) := ⟨h1_⟩
       have n2_ : Aside0 (B1.heap[Be]? = some (.cells #[.slice A0_0 l0_0.length c0_0] 29 (0, 0))) := ⟨h2_⟩
       have n3_ : Aside0 (B1.heap[Ay]? = some (.cells #[.slice none 0 0] 29 (0, 0))) := ⟨h3_⟩
       have n4_ : Aside0 (B1.heap[Aw]? = some (.cells #[.slice Br Ab.length Bq] 29 (0, 0))) := ⟨h4_⟩
       have n5_ : Aside0 (B1.heap[Ah]? = some (.cells #[.slice none 0 0] 29 (0, 0))) := ⟨h5_⟩
       have n6_ : Aside0 (w.heap.size ≤ Ah) := ⟨h6_⟩
       have n7_ : Aside0 (w.heap.size ≤ Ah) := ⟨h7_⟩
       have n8_ : Aside0 (Be ≠ Ah) := ⟨h8_⟩
       have n9_ : Aside0 (Ah ≠ Be) := ⟨h9_⟩
       have n10_ : Aside0 (Ay ≠ Ah) := ⟨h10_⟩
       have n11_ : Aside0 (Ah ≠ Ay) := ⟨h11_⟩
       have n12_ : Aside0 (Aw ≠ Ah) := ⟨h12_⟩
       have n13_ : Aside0 (Ah ≠ Aw) := ⟨h13_⟩
       have n14_ : Aside0 (Below w.heap.size w B1) := ⟨h14_⟩
       clear Aa
       clear Af
       clear Ae
       clear Ad
       clear HB
       clear h0_ h1_ h2_ h3_ h4_ h5_ h6_ h7_ h8_ h9_ h10_ h11_ h12_ h13_ h14_
       have Az := n0_
       have Aa := n1_
       have Af := n2_
       have Ae := n3_
       have Ad := n4_
       have Ax := n5_
       have Ai := n6_
       have Bk := n7_
       have Au := n8_
       have As := n9_
       have Ar := n10_
       have Aq := n11_
       have Aj := n12_
       have Ap := n13_
       have HB := n14_
       clear n0_ n1_ n2_ n3_ n4_ n5_ n6_ n7_ n8_ n9_ n10_ n11_ n12_ n13_ n14_
       have hHeld : B1.cell? ⟨Aw, 0, none⟩ = some (.slice Br Ab.length Bq) ∧ B1.cell? (Ag.add ((Ac).toNat * 4)) = some (.int .i64 ((rd_T55 l1 Ac).f0)) ∧ B1.cell? ⟨(Ag.add ((Ac).toNat * 4)).block, (Ag.add ((Ac).toNat * 4)).off + 1, none⟩ = some (.string ((rd_T55 l1 Ac).f1)) ∧ B1.cell? ⟨(Ag.add ((Ac).toNat * 4)).block, (Ag.add ((Ac).toNat * 4)).off + 2, none⟩ = some (.string ((rd_T55 l1 Ac).f2)) ∧ B1.cell? ⟨(Ag.add ((Ac).toNat * 4)).block, (Ag.add ((Ac).toNat * 4)).off + 3, none⟩ = some (.string ((rd_T55 l1 Ac).f3)) := hS_
       obtain ⟨Cd, Cc, Ck⟩ := Kd.R_slice Az.out
       (first | subst Ck | (injection Ck with f1_ f2_ f3_; have f4_ := f1_.symm; have f5_ := f3_.symm; clear f1_ f2_ f3_; subst f4_; subst f5_))
       refine norm_ (a' := ?_) ?_ ?_
       rotate_left
       ·simp only [putAll, Act.put, zA, zB, zC]
        rfl
       refine one_ (i := 10) (N := none) q12_15 rfl rfl (one_of HT_.out (by kernel_rfl)) (by decide) (fun K hK => ?_)
       have hs26 : B1.cell? ⟨Ah, 0, none⟩ = some (.slice none 0 0) := zv Ax
       have hfs26 := blk_frozen Ax.out 0
       have hns26_0 := Au.out
       have hns26_1 := Ar.out
       have hns26_2 := Aj.out
       have hms26_0 := As.out
       have hms26_1 := Aq.out
       have hms26_2 := Ap.out
       refine skip_ (w1 := ?_) (by rfl) rfl ?_ ?_
       rotate_left
       ·go_simp
        rfl
       refine hK.out _ _ ⟨((cell_far (p := ⟨Ah, _, none⟩) Aj.out _).trans (hHeld.1)), ((cell_far (p := ⟨Ah, _, none⟩) (by first | exact Nat.ne_of_lt (Nat.lt_of_lt_of_le (by have := World.block_lt_of_cell? _ _ Ao; first | rwa [add_block] at this | exact this) Ai.out) | (rw [add_block]; exact Nat.ne_of_lt (Nat.lt_of_lt_of_le (by have := World.block_lt_of_cell? _ _ Ao; first | rwa [add_block] at this | exact this) Ai.out)) | (show (Addr.add _ _).block ≠ _; rw [add_block]; exact Nat.ne_of_lt (Nat.lt_of_lt_of_le (by have := World.block_lt_of_cell? _ _ Ao; first | rwa [add_block] at this | exact this) Ai.out)) | (dsimp only; exact Nat.ne_of_lt (Nat.lt_of_lt_of_le (by have := World.block_lt_of_cell? _ _ Ao; first | rwa [add_block] at this | exact this) Ai.out))) _).trans (hHeld.2.1)), ((cell_far (p := ⟨Ah, _, none⟩) (by first | exact Nat.ne_of_lt (Nat.lt_of_lt_of_le (by have := World.block_lt_of_cell? _ _ Am; first | rwa [add_block] at this | exact this) Ai.out) | (rw [add_block]; exact Nat.ne_of_lt (Nat.lt_of_lt_of_le (by have := World.block_lt_of_cell? _ _ Am; first | rwa [add_block] at this | exact this) Ai.out)) | (show (Addr.add _ _).block ≠ _; rw [add_block]; exact Nat.ne_of_lt (Nat.lt_of_lt_of_le (by have := World.block_lt_of_cell? _ _ Am; first | rwa [add_block] at this | exact this) Ai.out)) | (dsimp only; exact Nat.ne_of_lt (Nat.lt_of_lt_of_le (by have := World.block_lt_of_cell? _ _ Am; first | rwa [add_block] at this | exact this) Ai.out))) _).trans (hHeld.2.2.1)), ((cell_far (p := ⟨Ah, _, none⟩) (by first | exact Nat.ne_of_lt (Nat.lt_of_lt_of_le (by have := World.block_lt_of_cell? _ _ Al; first | rwa [add_block] at this | exact this) Ai.out) | (rw [add_block]; exact Nat.ne_of_lt (Nat.lt_of_lt_of_le (by have := World.block_lt_of_cell? _ _ Al; first | rwa [add_block] at this | exact this) Ai.out)) | (show (Addr.add _ _).block ≠ _; rw [add_block]; exact Nat.ne_of_lt (Nat.lt_of_lt_of_le (by have := World.block_lt_of_cell? _ _ Al; first | rwa [add_block] at this | exact this) Ai.out)) | (dsimp only; exact Nat.ne_of_lt (Nat.lt_of_lt_of_le (by have := World.block_lt_of_cell? _ _ Al; first | rwa [add_block] at this | exact this) Ai.out))) _).trans (hHeld.2.2.2.1)), ((cell_far (p := ⟨Ah, _, none⟩) (by first | exact Nat.ne_of_lt (Nat.lt_of_lt_of_le (by have := World.block_lt_of_cell? _ _ Ak; first | rwa [add_block] at this | exact this) Ai.out) | (rw [add_block]; exact Nat.ne_of_lt (Nat.lt_of_lt_of_le (by have := World.block_lt_of_cell? _ _ Ak; first | rwa [add_block] at this | exact this) Ai.out)) | (show (Addr.add _ _).block ≠ _; rw [add_block]; exact Nat.ne_of_lt (Nat.lt_of_lt_of_le (by have := World.block_lt_of_cell? _ _ Ak; first | rwa [add_block] at this | exact this) Ai.out)) | (dsimp only; exact Nat.ne_of_lt (Nat.lt_of_lt_of_le (by have := World.block_lt_of_cell? _ _ Ak; first | rwa [add_block] at this | exact this) Ai.out))) _).trans (hHeld.2.2.2.2))⟩ (fun hHeld => ?_)
       clear hK K
       refine zP 11 (some 9) q12_16 HT_ ?_
       refine done_ (done_of HT_.out (by kernel_rfl)) ?_
       have hnb27 := As.out
       have hnc27 := Au.out
       have hnb28 := Aq.out
       have hnc28 := Ar.out
       have hnb29 := Ap.out
       have hnc29 := Aj.out
       obtain ⟨_, _⟩ := zc1 Ax
       have hnb31 := Bg.out
       have hnc31 := Bi.out
       have hnb32 := Bf.out
       have hnc32 := Bh.out
       obtain ⟨_, _⟩ := zc1 Ad
       try go_wp2
       go_roundg k1
       case measure => have := C3.out; omega
       case rel => exact ⟨(wrap64 (Ac + 1)), (Bj), (.slice Cd Bj.length Cc), zf, H', ⟨by have := C3.out; omega⟩, ⟨zo (Kd.R_mono (Kd.R_far (p := ⟨Aw, 0, none⟩) (Kd.R_far (p := ⟨Ah, 0, none⟩) (Kd.R_types (Kd.R_types Az.out Ax.out (by decide)) Ad.out (by decide)) (fun _ hk => hk.1.2) (.slice Cd Bj.length Cc)) (fun _ hk => hk.2) (.slice Cd Bj.length Cc)) (fun _ hk => trivial))⟩, ⟨zkf Af⟩, ⟨zkf Ae⟩, ⟨zj Ad⟩, ⟨zw HB⟩⟩
      replace Cr := Bool.eq_false_iff.mpr Cr
      subst Cr
      rw [if_neg (show ¬ (false = true) by decide)] at H
      simp only [Option.some.injEq, Prod.mk.injEq] at H
      obtain ⟨rfl, rfl⟩ := H
      obtain ⟨Bp, Bm, Cy⟩ := Kd.R_slice Aa.out
      subst Cy
      try go_wp2
      replace Aa := zd3 Aa
      replace Af := zd1 Af
      replace Ae := zd1 Ae
      replace Ad := zd1 Ad
      replace HB := zd2 HB
      have Bv : 0 ≤ (Ac : Int) := of_decide_eq_true za
      have Bu : Ac < (l1.length : Int) := of_decide_eq_true za
      obtain ⟨Ag, Cb, Bd, Bc, Bb, Ba⟩ := at_T55 HR1.out Ac Bv Bu
      have Ak := Ba
      have Al := Bb
      have Am := Bc
      have Ao := Bd
      cases Cb
      replace Bd := zU HB.out Bd
      replace Bc := zU HB.out Bc
      replace Bb := zU HB.out Bb
      replace Ba := zU HB.out Ba
      replace Bv := eq_true Bv
      replace Bu := eq_true Bu
      refine start_ (n := 12) (S := fun w' => w'.cell? ⟨Aw, 0, none⟩ = some (.slice Bp Ab.length Bm) ∧ w'.cell? (Ag.add ((Ac).toNat * 4)) = some (.int .i64 ((rd_T55 l1 Ac).f0)) ∧ w'.cell? ⟨(Ag.add ((Ac).toNat * 4)).block, (Ag.add ((Ac).toNat * 4)).off + 1, none⟩ = some (.string ((rd_T55 l1 Ac).f1)) ∧ w'.cell? ⟨(Ag.add ((Ac).toNat * 4)).block, (Ag.add ((Ac).toNat * 4)).off + 2, none⟩ = some (.string ((rd_T55 l1 Ac).f2)) ∧ w'.cell? ⟨(Ag.add ((Ac).toNat * 4)).block, (Ag.add ((Ac).toNat * 4)).off + 3, none⟩ = some (.string ((rd_T55 l1 Ac).f3))) (ds := []) q12_0 (by kernel_rfl) rfl rfl ⟨zv Ad, (zU HB.out Ao), (zU HB.out Am), (zU HB.out Al), (zU HB.out Ak)⟩ (fun hHeld => ?_); refine with_tabW spec_DoActs.tab5 spec_DoActs.bits5 (fun HT_ HW_ => ?_)
      generalize wr.drew = w35 at Aa Af Ae Ad HB Bd Bc Bb Ba hHeld ⊢
      refine zP 1 (some 23) q12_1 HT_ ?_
      refine zP 2 (some 24) q12_2 HT_ ?_
      refine zP 3 (some 25) q12_3 HT_ ?_
      refine zT 0 (some 22) q12_4 HT_ HW_ hHeld ?_
      refine zT 4 (some 26) q12_5 HT_ HW_ hHeld ?_
      refine join_ (σ := Value × Nat) 2 q12_6 (fun s_ => [(27, .tuple #[.agg #[s_.1], .bool false]), (8, .pointer (some ⟨s_.2, 0, none⟩)), (21, .tuple #[.agg #[s_.1], .bool false]), (28, .agg #[s_.1]), (29, .bool false)]) (fun s_ w' => (w'.cell? ⟨Aw, 0, none⟩ = some (.slice Bp Ab.length Bm) ∧ w'.cell? (Ag.add ((Ac).toNat * 4)) = some (.int .i64 ((rd_T55 l1 Ac).f0)) ∧ w'.cell? ⟨(Ag.add ((Ac).toNat * 4)).block, (Ag.add ((Ac).toNat * 4)).off + 1, none⟩ = some (.string ((rd_T55 l1 Ac).f1)) ∧ w'.cell? ⟨(Ag.add ((Ac).toNat * 4)).block, (Ag.add ((Ac).toNat * 4)).off + 2, none⟩ = some (.string ((rd_T55 l1 Ac).f2)) ∧ w'.cell? ⟨(Ag.add ((Ac).toNat * 4)).block, (Ag.add ((Ac).toNat * 4)).off + 3, none⟩ = some (.string ((rd_T55 l1 Ac).f3))) ∧ (Kd.R k45 45 w' w.heap.size (fun k_ => some k_ ≠ (.slice Bp Ab.length Bm : Value).ownBlock) s_.1 Bj) ∧ (Kd.R k45 45 w' w.heap.size (fun k_ => some k_ ≠ (s_.1 : Value).ownBlock) (.slice Bp Ab.length Bm) Ab) ∧ (w'.heap[Be]? = some (.cells #[.slice A0_0 l0_0.length c0_0] 29 (0, 0))) ∧ (w'.heap[Ay]? = some (.cells #[.slice none 0 0] 29 (0, 0))) ∧ (w'.heap[Aw]? = some (.cells #[.slice Bp Ab.length Bm] 29 (0, 0))) ∧ (w'.heap[s_.2]? = some (.cells #[.slice none 0 0] 29 (0, 0))) ∧ (w.heap.size ≤ s_.2) ∧ (w.heap.size ≤ s_.2) ∧ (Be ≠ s_.2) ∧ (s_.2 ≠ Be) ∧ (Ay ≠ s_.2) ∧ (s_.2 ≠ Ay) ∧ (Aw ≠ s_.2) ∧ (s_.2 ≠ Aw) ∧ (Below w.heap.size w w')) ?_ ?_
      rotate_left
      ·intro hCont
       refine two_ (i := 5) (j := 9) (Ni := some 27) (Nj := some 8) q12_7 q12_8 rfl rfl rfl rfl (two_of HT_.out (by kernel_rfl)) (by decide) (by decide) (fun K hK => ?_) (fun K hK => ?_)
       ·skip
        refine zH Try.func35 #[.agg #[.slice Bp Ab.length Bm], .agg #[.int .i64 ((rd_T55 l1 Ac).f0), .string ((rd_T55 l1 Ac).f1), .string ((rd_T55 l1 Ac).f2), .string ((rd_T55 l1 Ac).f3)]] ?_
        with_reducible refine (spec_DoAct.calls k1 _ _ Ab ((rd_T55 l1 Ac).f0) ((rd_T55 l1 Ac).f1) ((rd_T55 l1 Ac).f2) ((rd_T55 l1 Ac).f3) Bj false _ ?side1 ?side2 Ct.out).mono ?_
        (case side1 => exact zI (Kd.R_reads' Aa.out).2.2)
        (case side2 => exact (Kd.R_reads' Aa.out).2.1)
        rintro e C5 ⟨Bl, rfl, Bw, hb⟩
        refine ⟨_, rfl, ?_⟩
        have Az := Aside0.mk (Kd.R_lower (Kd.R_new' Bw (Kd.R_lt (zo Aa.out))) (below_size (zw HB)))
        replace Aa := Aside0.mk (Kd.R_elder' (zo Aa.out) (Kd.R_base Bw) hb)
        replace Af := zb Af hb
        replace Ae := zb Ae hb
        replace Ad := zb Ad hb
        replace HB := zs HB hb
        (try clear hb)
        (try clear hb2)
        (try clear hk)
        (try clear hi)
        (try clear Bw)
        refine hK.out _ _ ⟨zv Ad, (zU HB.out Ao), (zU HB.out Am), (zU HB.out Al), (zU HB.out Ak)⟩ (fun hHeld => ?_)
        clear hK K
        refine zN ?_
        refine zP 6 (some 21) q12_9 HT_ ?_
        refine zP 7 (some 28) q12_10 HT_ ?_
        refine zP 8 (some 29) q12_11 HT_ ?_
        refine one_ (i := 9) (N := some 8) q12_6 rfl rfl (one_of HT_.out (by kernel_rfl)) (by decide) (fun K hK => ?_)
        refine box_step ?hg (N := 8) ?hd (cs := #[.slice none 0 0]) (t := 29) ?hr ?_; (case hd => rfl); (case hg => rfl); (case hr => first | (go_simp; done) | (go_simp; rfl))
        intro Ah hg C4 hbox hb
        replace Aa := zy Aa hb
        replace Az := zy Az hb
        have Ax := Aside0.mk (hbox)
        have Ai := zg HB hg
        have Bk := zg HB hg
        replace HB := zs HB hb
        have Au := zl Af hg
        have As := zr Af hg
        replace Af := zb Af hb
        have Ar := zl Ae hg
        have Aq := zr Ae hg
        replace Ae := zb Ae hb
        have Aj := zl Ad hg
        have Ap := zr Ad hg
        replace Ad := zb Ad hb
        clear hb hbox hg
        refine hK.out _ _ ⟨zv Ad, (zU HB.out Ao), (zU HB.out Am), (zU HB.out Al), (zU HB.out Ak)⟩ (fun hHeld => ?_)
        clear hK K
        refine zN ?_
        exact norm_ (by simp only [putAll, Act.put, zA, zB, zC]) (hCont (Bl, Ah) _ ⟨hHeld, (zo (Kd.R_mono Az.out (fun _ hk => hk.2))), (zo (Kd.R_mono Aa.out (fun _ hk => hk.2))), (zk Af), (zk Ae), (zk Ad), (zk Ax), Ai.out, Bk.out, Au.out, As.out, Ar.out, Aq.out, Aj.out, Ap.out, (zw HB)⟩)
       refine box_step ?hg (N := 8) ?hd (cs := #[.slice none 0 0]) (t := 29) ?hr ?_; (case hd => rfl); (case hg => rfl); (case hr => first | (go_simp; done) | (go_simp; rfl))
       intro Ah hg C5 hbox hb
       replace Aa := zy Aa hb
       have Ax := Aside0.mk (hbox)
       have Ai := zg HB hg
       have Bk := zg HB hg
       replace HB := zs HB hb
       have Au := zl Af hg
       have As := zr Af hg
       replace Af := zb Af hb
       have Ar := zl Ae hg
       have Aq := zr Ae hg
       replace Ae := zb Ae hb
       have Aj := zl Ad hg
       have Ap := zr Ad hg
       replace Ad := zb Ad hb
       clear hb hbox hg
       refine hK.out _ _ ⟨zv Ad, (zU HB.out Ao), (zU HB.out Am), (zU HB.out Al), (zU HB.out Ak)⟩ (fun hHeld => ?_)
       clear hK K
       refine zN ?_
       refine one_ (i := 5) (N := some 27) q12_12 rfl rfl (one_of HT_.out (by kernel_rfl)) (by decide) (fun K hK => ?_)
       refine zH Try.func35 #[.agg #[.slice Bp Ab.length Bm], .agg #[.int .i64 ((rd_T55 l1 Ac).f0), .string ((rd_T55 l1 Ac).f1), .string ((rd_T55 l1 Ac).f2), .string ((rd_T55 l1 Ac).f3)]] ?_
       with_reducible refine (spec_DoAct.calls k1 _ _ Ab ((rd_T55 l1 Ac).f0) ((rd_T55 l1 Ac).f1) ((rd_T55 l1 Ac).f2) ((rd_T55 l1 Ac).f3) Bj false _ ?side1 ?side2 Ct.out).mono ?_
       (case side1 => exact zI (Kd.R_reads' Aa.out).2.2)
       (case side2 => exact (Kd.R_reads' Aa.out).2.1)
       rintro e C4 ⟨Bl, rfl, Bw, hb⟩
       refine ⟨_, rfl, ?_⟩
       have Az := Aside0.mk (Kd.R_lower (Kd.R_new' Bw (Kd.R_lt (zo Aa.out))) (below_size (zw HB)))
       replace Aa := Aside0.mk (Kd.R_elder' (zo Aa.out) (Kd.R_base Bw) hb)
       replace Af := zb Af hb
       replace Ae := zb Ae hb
       replace Ad := zb Ad hb
       replace Ax := zb Ax hb
       replace HB := zs HB hb
       (try clear hb)
       (try clear hb2)
       (try clear hk)
       (try clear hi)
       (try clear Bw)
       refine hK.out _ _ ⟨zv Ad, (zU HB.out Ao), (zU HB.out Am), (zU HB.out Al), (zU HB.out Ak)⟩ (fun hHeld => ?_)
       clear hK K
       refine zN ?_
       refine zP 6 (some 21) q12_13 HT_ ?_
       refine zP 7 (some 28) q12_14 HT_ ?_
       refine zP 8 (some 29) q12_6 HT_ ?_
       exact norm_ (by simp only [putAll, Act.put, zA, zB, zC]) (hCont (Bl, Ah) _ ⟨hHeld, (zo (Kd.R_mono Az.out (fun _ hk => hk.2))), (zo (Kd.R_mono Aa.out (fun _ hk => hk.2))), (zk Af), (zk Ae), (zk Ad), (zk Ax), Ai.out, Bk.out, Au.out, As.out, Ar.out, Aq.out, Aj.out, Ap.out, (zw HB)⟩)
      rintro ⟨Bl, Ah⟩ B0 ⟨hS_, h0_, h1_, h2_, h3_, h4_, h5_, h6_, h7_, h8_, h9_, h10_, h11_, h12_, h13_, h14_⟩
      have n0_ : Aside0 (Kd.R k45 45 B0 w.heap.size (fun k_ => some k_ ≠ (.slice Bp Ab.length Bm : Value).ownBlock) Bl Bj) := ⟨h0_⟩
      have n1_ : Aside0 (Kd.R k45 45 B0 w.heap.size (fun k_ => some k_ ≠ (Bl : Value).ownBlock) (.slice Bp Ab.length Bm) Ab) := ⟨h1_⟩
      have n2_ : Aside0 (B0.heap[Be]? = some (.cells #[.slice A0_0 l0_0.length c0_0] 29 (0, 0))) := ⟨h2_⟩
      have n3_ : Aside0 (B0.heap[Ay]? = some (.cells #[.slice none 0 0] 29 (0, 0))) := ⟨h3_⟩
      have n4_ : Aside0 (B0.heap[Aw]? = some (.cells #[.slice Bp Ab.length Bm] 29 (0, 0))) := ⟨h4_⟩
      have n5_ : Aside0 (B0.heap[Ah]? = some (.cells #[.slice none 0 0] 29 (0, 0))) := ⟨h5_⟩
      have n6_ : Aside0 (w.heap.size ≤ Ah) := ⟨h6_⟩
      have n7_ : Aside0 (w.heap.size ≤ Ah) := ⟨h7_⟩
      have n8_ : Aside0 (Be ≠ Ah) := ⟨h8_⟩
      have n9_ : Aside0 (Ah ≠ Be) := ⟨h9_⟩
      have n10_ : Aside0 (Ay ≠ Ah) := ⟨h10_⟩
      have n11_ : Aside0 (Ah ≠ Ay) := ⟨h11_⟩
      have n12_ : Aside0 (Aw ≠ Ah) := ⟨h12_⟩
      have n13_ : Aside0 (Ah ≠ Aw) := ⟨h13_⟩
      have n14_ : Aside0 (Below w.heap.size w B0) := ⟨h14_⟩
      clear Aa
      clear Af
      clear Ae
      clear Ad
      clear HB
      clear h0_ h1_ h2_ h3_ h4_ h5_ h6_ h7_ h8_ h9_ h10_ h11_ h12_ h13_ h14_
      have Az := n0_
      have Aa := n1_
      have Af := n2_
      have Ae := n3_
      have Ad := n4_
      have Ax := n5_
      have Ai := n6_
      have Bk := n7_
      have Au := n8_
      have As := n9_
      have Ar := n10_
      have Aq := n11_
      have Aj := n12_
      have Ap := n13_
      have HB := n14_
      clear n0_ n1_ n2_ n3_ n4_ n5_ n6_ n7_ n8_ n9_ n10_ n11_ n12_ n13_ n14_
      have hHeld : B0.cell? ⟨Aw, 0, none⟩ = some (.slice Bp Ab.length Bm) ∧ B0.cell? (Ag.add ((Ac).toNat * 4)) = some (.int .i64 ((rd_T55 l1 Ac).f0)) ∧ B0.cell? ⟨(Ag.add ((Ac).toNat * 4)).block, (Ag.add ((Ac).toNat * 4)).off + 1, none⟩ = some (.string ((rd_T55 l1 Ac).f1)) ∧ B0.cell? ⟨(Ag.add ((Ac).toNat * 4)).block, (Ag.add ((Ac).toNat * 4)).off + 2, none⟩ = some (.string ((rd_T55 l1 Ac).f2)) ∧ B0.cell? ⟨(Ag.add ((Ac).toNat * 4)).block, (Ag.add ((Ac).toNat * 4)).off + 3, none⟩ = some (.string ((rd_T55 l1 Ac).f3)) := hS_
      obtain ⟨C2, C1, Cj⟩ := Kd.R_slice Az.out
      (first | subst Cj | (injection Cj with f1_ f2_ f3_; have f4_ := f1_.symm; have f5_ := f3_.symm; clear f1_ f2_ f3_; subst f4_; subst f5_))
      refine norm_ (a' := ?_) ?_ ?_
      rotate_left
      ·simp only [putAll, Act.put, zA, zB, zC]
       rfl
      refine one_ (i := 10) (N := none) q12_15 rfl rfl (one_of HT_.out (by kernel_rfl)) (by decide) (fun K hK => ?_)
      have hs40 : B0.cell? ⟨Ah, 0, none⟩ = some (.slice none 0 0) := zv Ax
      have hfs40 := blk_frozen Ax.out 0
      have hns40_0 := Au.out
      have hns40_1 := Ar.out
      have hns40_2 := Aj.out
      have hms40_0 := As.out
      have hms40_1 := Aq.out
      have hms40_2 := Ap.out
      refine skip_ (w1 := ?_) (by rfl) rfl ?_ ?_
      rotate_left
      ·go_simp
       rfl
      refine hK.out _ _ ⟨((cell_far (p := ⟨Ah, _, none⟩) Aj.out _).trans (hHeld.1)), ((cell_far (p := ⟨Ah, _, none⟩) (by first | exact Nat.ne_of_lt (Nat.lt_of_lt_of_le (by have := World.block_lt_of_cell? _ _ Ao; first | rwa [add_block] at this | exact this) Ai.out) | (rw [add_block]; exact Nat.ne_of_lt (Nat.lt_of_lt_of_le (by have := World.block_lt_of_cell? _ _ Ao; first | rwa [add_block] at this | exact this) Ai.out)) | (show (Addr.add _ _).block ≠ _; rw [add_block]; exact Nat.ne_of_lt (Nat.lt_of_lt_of_le (by have := World.block_lt_of_cell? _ _ Ao; first | rwa [add_block] at this | exact this) Ai.out)) | (dsimp only; exact Nat.ne_of_lt (Nat.lt_of_lt_of_le (by have := World.block_lt_of_cell? _ _ Ao; first | rwa [add_block] at this | exact this) Ai.out))) _).trans (hHeld.2.1)), ((cell_far (p := ⟨Ah, _, none⟩) (by first | exact Nat.ne_of_lt (Nat.lt_of_lt_of_le (by have := World.block_lt_of_cell? _ _ Am; first | rwa [add_block] at this | exact this) Ai.out) | (rw [add_block]; exact Nat.ne_of_lt (Nat.lt_of_lt_of_le (by have := World.block_lt_of_cell? _ _ Am; first | rwa [add_block] at this | exact this) Ai.out)) | (show (Addr.add _ _).block ≠ _; rw [add_block]; exact Nat.ne_of_lt (Nat.lt_of_lt_of_le (by have := World.block_lt_of_cell? _ _ Am; first | rwa [add_block] at this | exact this) Ai.out)) | (dsimp only; exact Nat.ne_of_lt (Nat.lt_of_lt_of_le (by have := World.block_lt_of_cell? _ _ Am; first | rwa [add_block] at this | exact this) Ai.out))) _).trans (hHeld.2.2.1)), ((cell_far (p := ⟨Ah, _, none⟩) (by first | exact Nat.ne_of_lt (Nat.lt_of_lt_of_le (by have := World.block_lt_of_cell? _ _ Al; first | rwa [add_block] at this | exact this) Ai.out) | (rw [add_block]; exact Nat.ne_of_lt (Nat.lt_of_lt_of_le (by have := World.block_lt_of_cell? _ _ Al; first | rwa [add_block] at this | exact this) Ai.out)) | (show (Addr.add _ _).block ≠ _; rw [add_block]; exact Nat.ne_of_lt (Nat.lt_of_lt_of_le (by have := World.block_lt_of_cell? _ _ Al; first | rwa [add_block] at this | exact this) Ai.out)) | (dsimp only; exact Nat.ne_of_lt (Nat.lt_of_lt_of_le (by have := World.block_lt_of_cell? _ _ Al; first | rwa [add_block] at this | exact this) Ai.out))) _).trans (hHeld.2.2.2.1)), ((cell_far (p := ⟨Ah, _, none⟩) (by first | exact Nat.ne_of_lt (Nat.lt_of_lt_of_le (by have := World.block_lt_of_cell? _ _ Ak; first | rwa [add_block] at this | exact this) Ai.out) | (rw [add_block]; exact Nat.ne_of_lt (Nat.lt_of_lt_of_le (by have := World.block_lt_of_cell? _ _ Ak; first | rwa [add_block] at this | exact this) Ai.out)) | (show (Addr.add _ _).block ≠ _; rw [add_block]; exact Nat.ne_of_lt (Nat.lt_of_lt_of_le (by have := World.block_lt_of_cell? _ _ Ak; first | rwa [add_block] at this | exact this) Ai.out)) | (dsimp only; exact Nat.ne_of_lt (Nat.lt_of_lt_of_le (by have := World.block_lt_of_cell? _ _ Ak; first | rwa [add_block] at this | exact this) Ai.out))) _).trans (hHeld.2.2.2.2))⟩ (fun hHeld => ?_)
      clear hK K
      refine zP 11 (some 9) q12_16 HT_ ?_
      refine done_ (done_of HT_.out (by kernel_rfl)) ?_
      have hnb41 := Bg.out
      have hnc41 := Bi.out
      have hnb42 := Bf.out
      have hnc42 := Bh.out
      have hnb43 := Aj.out
      have hnc43 := Ap.out
      obtain ⟨_, _⟩ := zc1 Ad
      have hnb45 := Bn.out
      have hnc45 := Bo.out
      have hnb46 := Ar.out
      have hnc46 := Aq.out
      obtain ⟨_, _⟩ := zc1 Ae
      try go_wp2
      refine bodyPost_ret (results_ct rfl _ _ Ay 29 #[.slice Bp Ab.length Bm] (0, 0) _ rfl (zj Ae) Try.underlying29 rfl (by kernel_rfl)) rfl ?_
      exact ⟨_, ze, zo (Kd.R_mono (Kd.R_far (p := ⟨Ay, 0, none⟩) (Kd.R_far (p := ⟨Ah, 0, none⟩) (Kd.R_types (Kd.R_types Aa.out Ax.out (by decide)) Ae.out (by decide)) (fun _ hk => hk.1.2) (.slice C2 Bj.length C1)) (fun _ hk => hk.2) (.slice Bp Ab.length Bm)) (fun _ hk => trivial)), zw HB⟩
     rw [if_neg Cs] at H
     exact absurd H (by simp)
    rw [if_neg Ce] at H
    have Cn := decide_eq_false Ce
    clear Ce
    simp only [Option.some.injEq, Prod.mk.injEq] at H
    obtain ⟨rfl, rfl⟩ := H
    have hnb48 := Bg.out
    have hnc48 := Bi.out
    have hnb49 := Bf.out
    have hnc49 := Bh.out
    obtain ⟨_, _⟩ := zc1 Ad
    obtain ⟨Co, Cl, Cx⟩ := Kd.R_slice Aa.out
    subst Cx
    have hnb52 := Bn.out
    have hnc52 := Bo.out
    obtain ⟨_, _⟩ := zc1 Ae
    go_wp2
    refine bodyPost_ret (results_ct rfl _ _ Ay 29 #[.slice Co Ab.length Cl] (0, 0) _ rfl (zj Ae) Try.underlying29 rfl (by kernel_rfl)) rfl ?_
    exact ⟨_, ze, zo (Kd.R_mono (Kd.R_far (p := ⟨Ay, 0, none⟩) (Kd.R_types Aa.out Ae.out (by decide)) (fun _ hk => hk.2) (.slice Co Ab.length Cl)) (fun _ hk => trivial)), zw HB⟩
 rw [if_neg c3] at H
 exact absurd H (by simp)

end Go.Proofs.Ytdiecogmaiglaaa.PFnActs
