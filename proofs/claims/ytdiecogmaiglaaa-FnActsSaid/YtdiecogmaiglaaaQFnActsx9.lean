import Derived.Test.YtdiecogmaiglaaaQFnActsx0
namespace Go.Proofs.Ytdiecogmaiglaaa.PFnActs
open Go.RowKit Go.Proofs.YtdiecogmaiglaaaW.PrintWords Go.Proofs.YtdiecogmaiglaaaW.PrintLast Go.Proofs.YtdiecogmaiglaaaW.PrintMore
attribute [local go_sem] max2_int min2_int max_two min_two max_three min_three max_four min_four   -- for this text's walks alone
set_option linter.unusedVariables false
set_option linter.unusedSimpArgs false

/-! ### spec_l03Put: function 58 -/
mutual
def spec_l03Put.l0 : Nat → Int → List (S45) → ByteArray → ByteArray → Int → List (S45) → Option ((List (S45)))
 | 0, _, _, _, _, _, _ => none
 | k + 1, x6, x169000, x170000, x170001, x170002, x172000 => if x6 < (x169000.length : Int) then (if 0 ≤ x6 then (if (Op.bytesLess (((rd_T45 x169000 x6).f0).toList) x170000.toList) = true then (if x172000.length < 3518437208883 then (spec_l03Put.l0 k (wrap64 (x6 + 1)) x169000 x170000 x170001 x170002 (x172000 ++ [(⟨(rd_T45 x169000 x6).f0, (rd_T45 x169000 x6).f1, (rd_T45 x169000 x6).f2⟩ : S45)])) else (none)) else (spec_l03Put.l0 k (wrap64 (x6 + 1)) x169000 x170000 x170001 x170002 x172000)) else (none)) else (if x172000.length < 3518437208883 then (spec_l03Put.l1 k 0 x169000 x170000 x170001 x170002 (x172000 ++ [(⟨x170000, x170001, x170002⟩ : S45)])) else (none))
def spec_l03Put.l1 : Nat → Int → List (S45) → ByteArray → ByteArray → Int → List (S45) → Option ((List (S45)))
 | 0, _, _, _, _, _, _ => none
 | k + 1, x7, x169000, x170000, x170001, x170002, x172000 => if x7 < (x169000.length : Int) then (if 0 ≤ x7 then (if (Op.bytesLess x170000.toList (((rd_T45 x169000 x7).f0).toList)) = true then (if x172000.length < 3518437208883 then (spec_l03Put.l1 k (wrap64 (x7 + 1)) x169000 x170000 x170001 x170002 (x172000 ++ [(⟨(rd_T45 x169000 x7).f0, (rd_T45 x169000 x7).f1, (rd_T45 x169000 x7).f2⟩ : S45)])) else (none)) else (spec_l03Put.l1 k (wrap64 (x7 + 1)) x169000 x170000 x170001 x170002 x172000)) else (none)) else (some x172000)
end
def spec_l03Put.f (k : Nat) (l0_0 : List (S45)) (a1_0 : ByteArray) (a1_1 : ByteArray) (a1_2 : Int) : Option ((List (S45))) := spec_l03Put.l0 k 0 l0_0 a1_0 a1_1 a1_2 ([] : List (S45))
theorem spec_l03Put.mono_l : ∀ k, (∀ y0 y1 y2 y3 y4 y5, LeO (spec_l03Put.l0 k y0 y1 y2 y3 y4 y5) (spec_l03Put.l0 (k + 1) y0 y1 y2 y3 y4 y5)) ∧ (∀ y0 y1 y2 y3 y4 y5, LeO (spec_l03Put.l1 k y0 y1 y2 y3 y4 y5) (spec_l03Put.l1 (k + 1) y0 y1 y2 y3 y4 y5))
 | 0 => ⟨fun _ _ _ _ _ _ r h => by simp [spec_l03Put.l0] at h, fun _ _ _ _ _ _ r h => by simp [spec_l03Put.l1] at h⟩
 | k + 1 => by
  obtain ⟨ih0, ih1⟩ := spec_l03Put.mono_l k
  refine ⟨?_, ?_⟩
  ·intro y0 y1 y2 y3 y4 y5
   unfold spec_l03Put.l0
   repeat' first
   | (with_reducible exact ih0 _ _ _ _ _ _)
   | (with_reducible exact ih1 _ _ _ _ _ _)
   | (with_reducible exact LeO.refl _)
   | (with_reducible exact LeO.none _)
   | (with_reducible refine LeO.ite ?_ ?_)
   | (with_reducible refine LeO.bind ?_ (fun _ => ?_))
   | exact ih0 _ _ _ _ _ _
   | exact ih1 _ _ _ _ _ _
   | exact LeO.none _
   | refine LeO.ite ?_ ?_
   | refine LeO.bind ?_ (fun _ => ?_)
  intro y0 y1 y2 y3 y4 y5
  unfold spec_l03Put.l1
  repeat' first
  | (with_reducible exact ih0 _ _ _ _ _ _)
  | (with_reducible exact ih1 _ _ _ _ _ _)
  | (with_reducible exact LeO.refl _)
  | (with_reducible exact LeO.none _)
  | (with_reducible refine LeO.ite ?_ ?_)
  | (with_reducible refine LeO.bind ?_ (fun _ => ?_))
  | exact ih0 _ _ _ _ _ _
  | exact ih1 _ _ _ _ _ _
  | exact LeO.none _
  | refine LeO.ite ?_ ?_
  | refine LeO.bind ?_ (fun _ => ?_)
theorem spec_l03Put.mono : ∀ a0 a1 a2 a3 k, LeO (spec_l03Put.f k a0 a1 a2 a3) (spec_l03Put.f (k + 1) a0 a1 a2 a3) := by
 intro a0 a1 a2 a3 k
 obtain ⟨ih0, ih1⟩ := spec_l03Put.mono_l k
 unfold spec_l03Put.f
 repeat' first
   | (with_reducible exact ih0 _ _ _ _ _ _)
   | (with_reducible exact ih1 _ _ _ _ _ _)
   | (with_reducible exact LeO.refl _)
   | (with_reducible exact LeO.none _)
   | (with_reducible refine LeO.ite ?_ ?_)
   | (with_reducible refine LeO.bind ?_ (fun _ => ?_))
   | exact ih0 _ _ _ _ _ _
   | exact ih1 _ _ _ _ _ _
   | exact LeO.none _
   | refine LeO.ite ?_ ?_
   | refine LeO.bind ?_ (fun _ => ?_)
def spec_l03Put.T5 : Bool × List (List Nat × List Nat) := (true, [([], []), ([0], [0]), ([], []), ([1, 2], [1, 2]), ([3], [3]), ([4], [4]), ([], []), ([6], [6]), ([5, 7], [5, 7])])
def spec_l03Put.B5 : List Nat := [0, 1, 0, 7, 15, 31, 0, 64, 255]
theorem spec_l03Put.tab5 : rtab .any (opsOf Try.f58 5) = spec_l03Put.T5 := by kernel_rfl
theorem spec_l03Put.bits5 : waitsOk spec_l03Put.T5.2 spec_l03Put.B5 = true := by kernel_rfl
def spec_l03Put.T6 : Bool × List (List Nat × List Nat) := (true, [([], []), ([0], [0]), ([], []), ([2], [2]), ([], []), ([3, 4], [3, 4]), ([5], [5]), ([6], [6]), ([1, 7], [1, 7]), ([0, 1, 2, 3, 4, 5, 6, 7, 8], []), ([9, 8, 8, 0, 1, 2, 3, 4, 5, 6, 7, 8], [8, 9])])
def spec_l03Put.B6 : List Nat := [0, 1, 0, 4, 0, 28, 60, 124, 255, 511, 1023]
theorem spec_l03Put.tab6 : rtab .any (opsOf Try.f58 6) = spec_l03Put.T6 := by kernel_rfl
theorem spec_l03Put.bits6 : waitsOk spec_l03Put.T6.2 spec_l03Put.B6 = true := by kernel_rfl
def spec_l03Put.T11 : Bool × List (List Nat × List Nat) := (true, [([], []), ([0], [0]), ([], []), ([1, 2], [1, 2]), ([3], [3]), ([4], [4]), ([], []), ([6], [6]), ([5, 7], [5, 7])])
def spec_l03Put.B11 : List Nat := [0, 1, 0, 7, 15, 31, 0, 64, 255]
theorem spec_l03Put.tab11 : rtab .any (opsOf Try.f58 11) = spec_l03Put.T11 := by kernel_rfl
theorem spec_l03Put.bits11 : waitsOk spec_l03Put.T11.2 spec_l03Put.B11 = true := by kernel_rfl
def spec_l03Put.T12 : Bool × List (List Nat × List Nat) := (true, [([], []), ([0], [0]), ([], []), ([2], [2]), ([], []), ([3, 4], [3, 4]), ([5], [5]), ([6], [6]), ([1, 7], [1, 7]), ([0, 1, 2, 3, 4, 5, 6, 7, 8], []), ([9, 8, 8, 0, 1, 2, 3, 4, 5, 6, 7, 8], [8, 9])])
def spec_l03Put.B12 : List Nat := [0, 1, 0, 4, 0, 28, 60, 124, 255, 511, 1023]
theorem spec_l03Put.tab12 : rtab .any (opsOf Try.f58 12) = spec_l03Put.T12 := by kernel_rfl
theorem spec_l03Put.bits12 : waitsOk spec_l03Put.T12.2 spec_l03Put.B12 = true := by kernel_rfl
abbrev q9_0 := #[o_,o_,o_,o_,o_,o_,o_,o_,o_]
abbrev q9_1 := #[i_,o_,o_,o_,o_,o_,o_,o_,o_]
abbrev q9_2 := #[i_,o_,i_,o_,o_,o_,o_,o_,o_]
abbrev q9_3 := #[i_,o_,i_,o_,o_,o_,i_,o_,o_]
abbrev q9_4 := #[i_,i_,i_,o_,o_,o_,i_,o_,o_]
abbrev q9_5 := #[i_,i_,i_,i_,o_,o_,i_,o_,o_]
abbrev q9_6 := #[i_,i_,i_,i_,i_,o_,i_,o_,o_]
abbrev q9_7 := #[i_,i_,i_,i_,i_,i_,i_,o_,o_]
abbrev q9_8 := #[i_,i_,i_,i_,i_,i_,i_,i_,o_]
abbrev q9_9 := #[i_,i_,i_,i_,i_,i_,i_,i_,i_]
abbrev q9_10 := #[o_,o_,o_,o_,o_,o_,o_,o_,o_,o_,o_]
abbrev q9_11 := #[i_,o_,o_,o_,o_,o_,o_,o_,o_,o_,o_]
abbrev q9_12 := #[i_,o_,i_,o_,o_,o_,o_,o_,o_,o_,o_]
abbrev q9_13 := #[i_,o_,i_,o_,i_,o_,o_,o_,o_,o_,o_]
abbrev q9_14 := #[i_,i_,i_,o_,i_,o_,o_,o_,o_,o_,o_]
abbrev q9_15 := #[i_,i_,i_,i_,i_,o_,o_,o_,o_,o_,o_]
abbrev q9_16 := #[i_,i_,i_,i_,i_,i_,o_,o_,o_,o_,o_]
abbrev q9_17 := #[i_,i_,i_,i_,i_,i_,i_,o_,o_,o_,o_]
abbrev q9_18 := #[i_,i_,i_,i_,i_,i_,i_,i_,o_,o_,o_]
abbrev q9_19 := #[i_,i_,i_,i_,i_,i_,i_,i_,i_,o_,o_]
abbrev q9_20 := #[i_,i_,i_,i_,i_,i_,i_,i_,i_,i_,o_]
abbrev q9_21 := #[i_,i_,i_,i_,i_,i_,i_,i_,i_,i_,i_]
set_option maxHeartbeats 8000000 in
set_option maxRecDepth 100000 in
theorem spec_l03Put.calls (k : Nat) (A0_0 : Option Addr) (c0_0 : Nat) (l0_0 : List (S45)) (a1_0 : ByteArray) (a1_1 : ByteArray) (a1_2 : Int) (r : List (S45)) (w : World) (hr0_0 : Kd.C k45 w A0_0 l0_0.length l0_0) (hc0_0 : l0_0.length ≤ c0_0) (h : spec_l03Put.f k l0_0 a1_0 a1_1 a1_2 = some r) :
  Calls Try.prog 58 #[.agg #[.slice A0_0 l0_0.length c0_0], .agg #[.string a1_0, .string a1_1, .int .i64 a1_2]] w fun e w' => ∃ v0_ : Value, e = .returned (.agg #[v0_]) ∧ Kd.R k45 45 w' w.heap.size (fun _ => True) v0_ r ∧ Below w.heap.size w w' := by
 have hu29 := Try.underlying29
 have hu45 := Try.underlying45
 have HR0_0 := Aside0.mk hr0_0
 have HC0_0 := Aside0.mk hc0_0
 clear hr0_0 hc0_0
 have HB := Aside0.mk (Below.refl w.heap.size w)
 have H : (spec_l03Put.l0 k 0 l0_0 a1_0 a1_1 a1_2 ([] : List (S45))) = some r := h
 clear h
 have H' := Aside0.mk H
 clear H
 go_enter Try.func58, Try.ntmps58
 go_wp2_with (first | ((with_reducible refine gate_dst (N := 2) rfl ?_); refine zx (N := 2) (cs := #[.slice A0_0 l0_0.length c0_0]) (t := 29) ?_; intro Bk hg w3 hbox hb; have Ab := Aside0.mk (hbox); have GW168 := zg HB hg; have GE168 := zg HB hg; replace HB := zs HB hb; clear hb hbox hg) | ((with_reducible refine gate_dst (N := 3) rfl ?_); refine zx (N := 3) (cs := #[.string a1_0, .string a1_1, .int .i64 a1_2]) (t := 45) ?_; intro Ai hg w4 hbox hb; have Ac := Aside0.mk (hbox); have GW169 := zg HB hg; have GE169 := zg HB hg; replace HB := zs HB hb; have Bb := zl Ab hg; have Az := zr Ab hg; replace Ab := zb Ab hb; clear hb hbox hg) | ((with_reducible refine gate_dst (N := 4) rfl ?_); refine zx (N := 4) (cs := #[.slice none 0 0]) (t := 29) ?_; intro Cd hg w5 hbox hb; have Ae := Aside0.mk (hbox); have GW170 := zg HB hg; have GE170 := zg HB hg; replace HB := zs HB hb; have Ba := zl Ab hg; have Ay := zr Ab hg; replace Ab := zb Ab hb; have Bp := zl Ac hg; have Bo := zr Ac hg; replace Ac := zb Ac hb; clear hb hbox hg) | ((with_reducible refine gate_dst (N := 5) rfl ?_); refine zx (N := 5) (cs := #[.slice none 0 0]) (t := 29) ?_; intro Bj hg w6 hbox hb; have Ad := Aside0.mk (hbox); have GW171 := zg HB hg; have GE171 := zg HB hg; replace HB := zs HB hb; have Am := zl Ab hg; have Al := zr Ab hg; replace Ab := zb Ab hb; have Bf := zl Ac hg; have Bd := zr Ac hg; replace Ac := zb Ac hb; have Be := zl Ae hg; have Bc := zr Ae hg; replace Ae := zb Ae hb; clear hb hbox hg; have hnb7 := Al.out; have hnc7 := Am.out; have hnb8 := Bd.out; have hnc8 := Bf.out; have hnb9 := Bc.out; have hnc9 := Be.out; obtain ⟨Cn, Cm⟩ := zc1 Ad))
 go_loopg [6] k (fun kq v6 w' => ∃ (Ag : Int) (Aj : List (S45)) (Ah : Value), v6 = .int .i64 Ag ∧ Aside0 (spec_l03Put.l0 kq Ag l0_0 a1_0 a1_1 a1_2 Aj = some r) ∧ Aside0 (kq ≤ k) ∧ Aside0 (Kd.R k45 45 w' w.heap.size (fun k_ => k_ ≠ Ai) Ah Aj) ∧ Aside0 (w'.heap[Bk]? = some (.cells #[(.slice A0_0 l0_0.length c0_0)] 29 (0, 0))) ∧ Aside0 (w'.heap[Ai]? = some (.cells #[.string a1_0, .string a1_1, .int .i64 a1_2] 45 (0, 0))) ∧ Aside0 (w'.heap[Cd]? = some (.cells #[(.slice none 0 0)] 29 (0, 0))) ∧ Aside0 (w'.heap[Bj]? = some (.cells #[Ah] 29 (0, 0))) ∧ Aside0 (Below w.heap.size w w'))
 case atStart => exact ⟨(0), (([] : List (S45))), (.slice none 0 0), zf, H', ⟨Nat.le_refl _⟩, ⟨by first | exact Kd.R_nil _ _ _ _ _ | exact Kd.N_nil _ _ _ _ _ | exact Kd.V_nil _ _ _ _ _ | exact Kd.Q_nil _ _ _ _ _ | exact Kd.S_nil _ _ _ _ _⟩, ⟨zkf Ab⟩, ⟨zkf Ac⟩, ⟨zkf Ae⟩, ⟨zj Ad⟩, ⟨zw HB⟩⟩
 case round =>
  clear H'
  try clear p2
  try clear c5
  try clear c7
  try clear c8
  try clear c9
  try clear Cn Cm
  obtain ⟨Ag, Aj, Ah, rfl, HA, Ct, Aa, Ab, Ac, Ae, Ad, HB⟩ := hrel
  cases gk with
  | zero => exact absurd HA.out (by simp [spec_l03Put.l0])
  | succ k1 =>
   have H := HA.out
   clear HA
   simp only [spec_l03Put.l0] at H
   by_cases Cz : Ag < (l0_0.length : Int)
   ·rw [if_pos Cz] at H
    have Cp := decide_eq_true Cz
    clear Cz
    by_cases Dt : 0 ≤ Ag
    ·rw [if_pos Dt] at H
     have Ds := decide_eq_true Dt
     clear Dt
     by_cases Cy : (Op.bytesLess (((rd_T45 l0_0 Ag).f0).toList) a1_0.toList) = true
     ·rw [if_pos Cy] at H
      have Co : (Op.bytesLess (((rd_T45 l0_0 Ag).f0).toList) a1_0.toList) = true := Cy
      clear Cy
      by_cases Dr : Aj.length < 3518437208883
      ·rw [if_pos Dr] at H
       have LMc14 := Aside0.mk Dr
       clear Dr
       obtain ⟨Cj, Cg⟩ : ∃ y_ : List (S45), y_ = (Aj ++ [(⟨(rd_T45 l0_0 Ag).f0, (rd_T45 l0_0 Ag).f1, (rd_T45 l0_0 Ag).f2⟩ : S45)]) := ⟨_, rfl⟩
       replace H : (spec_l03Put.l0 k1 (wrap64 (Ag + 1)) l0_0 a1_0 a1_1 a1_2 Cj) = some r := zrw Cg H
       have Ny174 := Aside0.mk Cg
       clear Cg
       have H' := Aside0.mk H
       clear H
       have hnb15 := Bb.out
       have hnc15 := Az.out
       have hnb16 := Ba.out
       have hnc16 := Ay.out
       have hnb17 := Am.out
       have hnc17 := Al.out
       obtain ⟨Dh, C9⟩ := zc1 Ab
       try go_wp2
       replace Aa := zd3 Aa
       replace Ab := zd1 Ab
       replace Ac := zd1 Ac
       replace Ae := zd1 Ae
       replace Ad := zd1 Ad
       replace HB := zd2 HB
       have Ca : 0 ≤ (Ag : Int) := of_decide_eq_true za
       have B8 : Ag < (l0_0.length : Int) := of_decide_eq_true za
       obtain ⟨Ap, Cx, As, Ar, Aq⟩ := at_T45 HR0_0.out Ag Ca B8
       have B0 := Aq
       have B1 := Ar
       have B2 := As
       cases Cx
       replace As := zU HB.out As
       replace Ar := zU HB.out Ar
       replace Aq := zU HB.out Aq
       replace Ca := eq_true Ca
       replace B8 := eq_true B8
       refine start_ (n := 9) (S := fun w' => w'.cell? ⟨Bk, 0, none⟩ = some (.slice (some Ap) l0_0.length c0_0) ∧ w'.cell? ⟨Ai, 0, none⟩ = some (.string a1_0) ∧ w'.cell? ⟨Ai, 1, none⟩ = some (.string a1_1) ∧ w'.cell? ⟨Ai, 2, none⟩ = some (.int .i64 a1_2) ∧ w'.cell? (Ap.add ((Ag).toNat * 3)) = some (.string ((rd_T45 l0_0 Ag).f0)) ∧ w'.cell? ⟨(Ap.add ((Ag).toNat * 3)).block, (Ap.add ((Ag).toNat * 3)).off + 1, none⟩ = some (.string ((rd_T45 l0_0 Ag).f1)) ∧ w'.cell? ⟨(Ap.add ((Ag).toNat * 3)).block, (Ap.add ((Ag).toNat * 3)).off + 2, none⟩ = some (.int .i64 ((rd_T45 l0_0 Ag).f2))) (ds := []) q9_0 (by kernel_rfl) rfl rfl ⟨zv Ab, zv Ac, zv Ac, zv Ac, (zU HB.out B2), (zU HB.out B1), (zU HB.out B0)⟩ (fun hHeld => ?_); refine with_tabW spec_l03Put.tab5 spec_l03Put.bits5 (fun HT_ HW_ => ?_)
       generalize wr.drew = Ea at Aa Ab Ac Ae Ad HB As Ar Aq hHeld ⊢
       refine zP 0 (some 16) q9_1 HT_ ?_
       refine zP 2 (some 18) q9_2 HT_ ?_
       refine zP 6 (some 22) q9_3 HT_ ?_
       refine zT 1 (some 17) q9_4 HT_ HW_ hHeld ?_
       refine zP 3 (some 19) q9_5 HT_ ?_
       refine zP 4 (some 20) q9_6 HT_ ?_
       refine zT 5 (some 21) q9_7 HT_ HW_ hHeld ?_
       refine zT 7 (some 23) q9_8 HT_ HW_ hHeld ?_
       refine zP 8 (some 24) q9_9 HT_ ?_
       refine done_ (done_of HT_.out (by kernel_rfl)) ?_
       try go_wp2
       replace Aa := zd3 Aa
       replace Ab := zd1 Ab
       replace Ac := zd1 Ac
       replace Ae := zd1 Ae
       replace Ad := zd1 Ad
       replace HB := zd2 HB
       have Cl : 0 ≤ (Ag : Int) := of_decide_eq_true za
       have Ck : Ag < (l0_0.length : Int) := of_decide_eq_true za
       obtain ⟨Dv, D6, Bi, Bh, Bg⟩ := at_T45 HR0_0.out Ag Cl Ck
       have Bw := Bg
       have Bx := Bh
       have Bz := Bi
       obtain rfl : Ap = Dv := (by injection D6)
       replace Bi := zU HB.out Bi
       replace Bh := zU HB.out Bh
       replace Bg := zU HB.out Bg
       replace Cl := eq_true Cl
       replace Ck := eq_true Ck
       refine start_ (n := 11) (S := fun w' => w'.cell? ⟨Bj, 0, none⟩ = some (Ah) ∧ w'.cell? ⟨Bk, 0, none⟩ = some (.slice (some Ap) l0_0.length c0_0) ∧ w'.cell? (Ap.add ((Ag).toNat * 3)) = some (.string ((rd_T45 l0_0 Ag).f0)) ∧ w'.cell? ⟨(Ap.add ((Ag).toNat * 3)).block, (Ap.add ((Ag).toNat * 3)).off + 1, none⟩ = some (.string ((rd_T45 l0_0 Ag).f1)) ∧ w'.cell? ⟨(Ap.add ((Ag).toNat * 3)).block, (Ap.add ((Ag).toNat * 3)).off + 2, none⟩ = some (.int .i64 ((rd_T45 l0_0 Ag).f2))) (ds := [10]) q9_10 (by kernel_rfl) rfl rfl ⟨zv Ad, zv Ab, (zU HB.out Bz), (zU HB.out Bx), (zU HB.out Bw)⟩ (fun hHeld => ?_); refine with_tabW spec_l03Put.tab6 spec_l03Put.bits6 (fun HT_ HW_ => ?_)
       generalize Ea.drew = w20 at Aa Ab Ac Ae Ad HB Bi Bh Bg hHeld ⊢
       refine zP 0 (some 25) q9_11 HT_ ?_
       refine zP 2 (some 27) q9_12 HT_ ?_
       refine zP 4 (some 29) q9_13 HT_ ?_
       refine zT 1 (some 26) q9_14 HT_ HW_ hHeld ?_
       refine zT 3 (some 28) q9_15 HT_ HW_ hHeld ?_
       refine zP 5 (some 30) q9_16 HT_ ?_
       refine zT 6 (some 31) q9_17 HT_ HW_ hHeld ?_
       refine one_ (i := 7) (N := some 32) q9_18 rfl rfl (one_of HT_.out (by kernel_rfl)) (by decide) (fun K hK => ?_)
       refine value_ (w1 := ?_) (v := ?_) (by rfl) rfl ?_ ?_
       rotate_left 2
       ·go_simp
        constructor
        ·rfl
        rfl
       refine hK.out _ _ ⟨zva Ad, zva Ab, zca (zU HB.out Bz), zca (zU HB.out Bx), zca (zU HB.out Bw)⟩ (fun hHeld => ?_)
       clear hK K
       refine zN ?_
       refine one_ (i := 8) (N := some 33) q9_19 rfl rfl (one_of HT_.out (by kernel_rfl)) (by decide) (fun K hK => ?_)
       refine Kd.R_append_step k45 (w0 := w) w.heap.size (by rfl) (.tmp 26) (.tmp 32) 27 45 (.agg #[(.string ⟨#[]⟩), (.string ⟨#[]⟩), (.int .i64 0)]) 40 rfl Try.underlying27 info45 rfl (by decide) (by omega) Ah Aj (⟨(rd_T45 l0_0 Ag).f0, (rd_T45 l0_0 Ag).f1, (rd_T45 l0_0 Ag).f2⟩ : S45) [.string ((rd_T45 l0_0 Ag).f0), .string ((rd_T45 l0_0 Ag).f1), .int .i64 ((rd_T45 l0_0 Ag).f2)] (fun k_ => k_ ≠ Ai) (fun _ => False) rfl rfl ?aP (fun _ hk => hk.elim) ?aF ?aO ?aB ?aS ?aL ?_
       (case aP => exact k45_mkM _ _ _ (⟨(rd_T45 l0_0 Ag).f0, (rd_T45 l0_0 Ag).f1, (rd_T45 l0_0 Ag).f2⟩ : S45))
       (case aB => exact (zw HB))
       (case aF => exact (fun k_ hk => Kd.freshB (g := Ai) (o := .cells #[.string a1_0, .string a1_1, .int .i64 a1_2] 45 (0, 0)) (zk Ac) k_ hk))
       (case aO => exact (zo Aa.out))
       (case aS => exact (below_size (zw HB)))
       (case aL => have := LMc14.out; omega)
       intro v175 D9 ho hb hg hat
       rw [← Ny174.out] at ho
       replace Ab := zbg Ab hg Aa
       replace Ac := Aside0.mk (blk_grown (g := Ai) (o := .cells #[.string a1_0, .string a1_1, .int .i64 a1_2] 45 (0, 0)) (zk Ac) hg (Kd.R_away Aa.out (fun _ hk => hk)))
       replace Ae := zbg Ae hg Aa
       replace Ad := zbg Ad hg Aa
       replace HB := Aside0.mk (hb)
       have Cs := Aside0.mk (ho)
       clear Aa
       clear ho hb hg hat
       obtain ⟨Dz, Dn, Dj⟩ := Kd.R_slice Cs.out
       (first | subst Dj | (injection Dj with f1_ f2_ f3_; have f4_ := f1_.symm; have f5_ := f3_.symm; clear f1_ f2_ f3_; subst f4_; subst f5_))
       refine hK.out _ _ ⟨zv Ad, zv Ab, (zU HB.out Bz), (zU HB.out Bx), (zU HB.out Bw)⟩ (fun hHeld => ?_)
       clear hK K
       refine zN ?_
       refine zP 9 (some 34) q9_20 HT_ ?_
       refine last_ (i := 10) (N := none) q9_21 rfl rfl (one_of HT_.out (by kernel_rfl)) (by decide) (fun K hK => ?_)
       have hs23 : D9.cell? ⟨Bj, 0, none⟩ = some (Ah) := zv Ad
       have hfs23 := blk_frozen Ad.out 0
       have hns23_0 := Am.out
       have hns23_1 := Bf.out
       have hns23_2 := Be.out
       have hms23_0 := Al.out
       have hms23_1 := Bd.out
       have hms23_2 := Bc.out
       refine skip_ (w1 := ?_) (by rfl) rfl ?_ ?_
       rotate_left
       ·go_simp
        rfl
       refine hK.out _ _ ?_
       clear hK K
       refine done_ (done_of HT_.out (by kernel_rfl)) ?_
       try go_wp2
       go_roundg k1
       case measure => have := Ct.out; omega
       case rel => exact ⟨(wrap64 (Ag + 1)), (Cj), (.slice Dz Cj.length Dn), zf, H', ⟨by have := Ct.out; omega⟩, ⟨zo (Kd.R_mono (Kd.R_far (p := ⟨Bj, 0, none⟩) (Kd.R_types Cs.out Ad.out (by decide)) (fun _ hk => hk.2) (.slice Dz Cj.length Dn)) (fun _ hk => hk.1))⟩, ⟨zkf Ab⟩, ⟨zkf Ac⟩, ⟨zkf Ae⟩, ⟨zj Ad⟩, ⟨zw HB⟩⟩
      rw [if_neg Dr] at H
      exact absurd H (by simp)
     rw [if_neg Cy] at H
     have Co : (Op.bytesLess (((rd_T45 l0_0 Ag).f0).toList) a1_0.toList) = false := by simpa using Cy
     clear Cy
     have H' := Aside0.mk H
     clear H
     have hnb24 := Bb.out
     have hnc24 := Az.out
     have hnb25 := Ba.out
     have hnc25 := Ay.out
     have hnb26 := Am.out
     have hnc26 := Al.out
     obtain ⟨Dg, C8⟩ := zc1 Ab
     try go_wp2
     replace Aa := zd3 Aa
     replace Ab := zd1 Ab
     replace Ac := zd1 Ac
     replace Ae := zd1 Ae
     replace Ad := zd1 Ad
     replace HB := zd2 HB
     have Ca : 0 ≤ (Ag : Int) := of_decide_eq_true za
     have B8 : Ag < (l0_0.length : Int) := of_decide_eq_true za
     obtain ⟨Ap, Cx, As, Ar, Aq⟩ := at_T45 HR0_0.out Ag Ca B8
     have B0 := Aq
     have B1 := Ar
     have B2 := As
     cases Cx
     replace As := zU HB.out As
     replace Ar := zU HB.out Ar
     replace Aq := zU HB.out Aq
     replace Ca := eq_true Ca
     replace B8 := eq_true B8
     refine start_ (n := 9) (S := fun w' => w'.cell? ⟨Bk, 0, none⟩ = some (.slice (some Ap) l0_0.length c0_0) ∧ w'.cell? ⟨Ai, 0, none⟩ = some (.string a1_0) ∧ w'.cell? ⟨Ai, 1, none⟩ = some (.string a1_1) ∧ w'.cell? ⟨Ai, 2, none⟩ = some (.int .i64 a1_2) ∧ w'.cell? (Ap.add ((Ag).toNat * 3)) = some (.string ((rd_T45 l0_0 Ag).f0)) ∧ w'.cell? ⟨(Ap.add ((Ag).toNat * 3)).block, (Ap.add ((Ag).toNat * 3)).off + 1, none⟩ = some (.string ((rd_T45 l0_0 Ag).f1)) ∧ w'.cell? ⟨(Ap.add ((Ag).toNat * 3)).block, (Ap.add ((Ag).toNat * 3)).off + 2, none⟩ = some (.int .i64 ((rd_T45 l0_0 Ag).f2))) (ds := []) q9_0 (by kernel_rfl) rfl rfl ⟨zv Ab, zv Ac, zv Ac, zv Ac, (zU HB.out B2), (zU HB.out B1), (zU HB.out B0)⟩ (fun hHeld => ?_); refine with_tabW spec_l03Put.tab5 spec_l03Put.bits5 (fun HT_ HW_ => ?_)
     generalize wr.drew = w28 at Aa Ab Ac Ae Ad HB As Ar Aq hHeld ⊢
     refine zP 0 (some 16) q9_1 HT_ ?_
     refine zP 2 (some 18) q9_2 HT_ ?_
     refine zP 6 (some 22) q9_3 HT_ ?_
     refine zT 1 (some 17) q9_4 HT_ HW_ hHeld ?_
     refine zP 3 (some 19) q9_5 HT_ ?_
     refine zP 4 (some 20) q9_6 HT_ ?_
     refine zT 5 (some 21) q9_7 HT_ HW_ hHeld ?_
     refine zT 7 (some 23) q9_8 HT_ HW_ hHeld ?_
     refine zP 8 (some 24) q9_9 HT_ ?_
     refine done_ (done_of HT_.out (by kernel_rfl)) ?_
     try go_wp2
     go_roundg k1
     case measure => have := Ct.out; omega
     case rel => exact ⟨(wrap64 (Ag + 1)), (Aj), (Ah), zf, H', ⟨by have := Ct.out; omega⟩, ⟨zo Aa.out⟩, ⟨zkf Ab⟩, ⟨zkf Ac⟩, ⟨zkf Ae⟩, ⟨zkf Ad⟩, ⟨zw HB⟩⟩
    rw [if_neg Dt] at H
    exact absurd H (by simp)
   rw [if_neg Cz] at H
   have Cp := decide_eq_false Cz
   clear Cz
   by_cases Dq : Aj.length < 3518437208883
   ·rw [if_pos Dq] at H
    have LMc29 := Aside0.mk Dq
    clear Dq
    obtain ⟨Ci, Cf⟩ : ∃ y_ : List (S45), y_ = (Aj ++ [(⟨a1_0, a1_1, a1_2⟩ : S45)]) := ⟨_, rfl⟩
    replace H : (spec_l03Put.l1 k1 0 l0_0 a1_0 a1_1 a1_2 Ci) = some r := zrw Cf H
    have Ny177 := Aside0.mk Cf
    clear Cf
    have H' := Aside0.mk H
    clear H
    have hnb30 := Bb.out
    have hnc30 := Az.out
    have hnb31 := Ba.out
    have hnc31 := Ay.out
    have hnb32 := Am.out
    have hnc32 := Al.out
    obtain ⟨Df, C7⟩ := zc1 Ab
    have hnb34 := Bd.out
    have hnc34 := Bf.out
    have hnb35 := Bc.out
    have hnc35 := Be.out
    obtain ⟨De, C6⟩ := zc1 Ad
    have hnb37 := Bp.out
    have hnc37 := Bo.out
    obtain ⟨Dd, Dc, Db, C5, C4, C3⟩ := zc3 Ac
    go_wp2_with (first | ((with_reducible refine gate_builtin (b := .append) (xs := #[.tmp 36, .tmp 38]) rfl ?_); at_builtin; refine Kd.R_append k45 (w0 := w) w.heap.size rfl (.tmp 36) (.tmp 38) 27 45 (.agg #[(.string ⟨#[]⟩), (.string ⟨#[]⟩), (.int .i64 0)]) 40 rfl Try.underlying27 info45 rfl (by decide) (by omega) Ah Aj (⟨a1_0, a1_1, a1_2⟩ : S45) [.string a1_0, .string a1_1, .int .i64 a1_2] (fun k_ => k_ ≠ Ai) (fun _ => False) rfl rfl ?aP (fun _ hk => hk.elim) ?aF ?aO ?aB ?aS ?aL ?_; (case aP => exact k45_mkM _ _ _ (⟨a1_0, a1_1, a1_2⟩ : S45)); (case aB => exact (zw HB)); (case aF => exact (fun k_ hk => Kd.freshB (g := Ai) (o := .cells #[.string a1_0, .string a1_1, .int .i64 a1_2] 45 (0, 0)) (zk Ac) k_ hk)); (case aO => exact (zo Aa.out)); (case aS => exact (below_size (zw HB))); (case aL => have := LMc29.out; omega); intro v178 w39 ho hb hg hat; rw [← Ny177.out] at ho; replace Ab := zbg Ab hg Aa; replace Ac := Aside0.mk (blk_grown (g := Ai) (o := .cells #[.string a1_0, .string a1_1, .int .i64 a1_2] 45 (0, 0)) (zk Ac) hg (Kd.R_away Aa.out (fun _ hk => hk))); replace Ae := zbg Ae hg Aa; replace Ad := zbg Ad hg Aa; replace HB := Aside0.mk (hb); have Cr := Aside0.mk (ho); clear Aa; clear ho hb hg hat; obtain ⟨Dy, Dm, D4⟩ := Kd.R_slice Cr.out; subst D4; obtain ⟨Da, C2⟩ := zc1 Ad))
    go_loopg [7] k1 (fun kq v7 w' => ∃ (Af : Int) (Ak : List (S45)) (Ah : Value), v7 = .int .i64 Af ∧ Aside0 (spec_l03Put.l1 kq Af l0_0 a1_0 a1_1 a1_2 Ak = some r) ∧ Aside0 (kq ≤ k1) ∧ Aside0 (Kd.R k45 45 w' w.heap.size (fun k_ => k_ ≠ Ai) Ah Ak) ∧ Aside0 (w'.heap[Bk]? = some (.cells #[(.slice A0_0 l0_0.length c0_0)] 29 (0, 0))) ∧ Aside0 (w'.heap[Ai]? = some (.cells #[.string a1_0, .string a1_1, .int .i64 a1_2] 45 (0, 0))) ∧ Aside0 (w'.heap[Cd]? = some (.cells #[(.slice none 0 0)] 29 (0, 0))) ∧ Aside0 (w'.heap[Bj]? = some (.cells #[Ah] 29 (0, 0))) ∧ Aside0 (Below w.heap.size w w'))
    case atStart => exact ⟨(0), (Ci), (.slice Dy Ci.length Dm), zf, H', ⟨Nat.le_refl _⟩, ⟨zo (Kd.R_mono (Kd.R_far (p := ⟨Bj, 0, none⟩) (Kd.R_types Cr.out Ad.out (by decide)) (fun _ hk => hk.2) (.slice Dy Ci.length Dm)) (fun _ hk => hk.1))⟩, ⟨zkf Ab⟩, ⟨zkf Ac⟩, ⟨zkf Ae⟩, ⟨zj Ad⟩, ⟨zw HB⟩⟩
    case round =>
     clear H'
     try clear c1
     try clear p1
     try clear q1
     try clear hx1
     try clear c2
     try clear p2
     try clear c3
     try clear c5
     try clear p6
     try clear c7
     try clear c8
     try clear c9
     try clear Cz
     try clear Cp
     try clear Dt
     try clear Ds
     try clear Cy
     try clear Co
     try clear Dr
     try clear c15
     try clear c16
     try clear c17
     try clear p17
     try clear q17
     try clear hx17
     try clear c24
     try clear c25
     try clear c26
     try clear Dq
     try clear c30
     try clear c31
     try clear c32
     try clear c34
     try clear c35
     try clear c37
     try clear Cn
     try clear Dh
     try clear Dg
     try clear Df
     try clear De
     try clear Dd
     try clear Dc
     try clear Db
     try clear Da
     try clear Cm
     try clear C9
     try clear C8
     try clear C7
     try clear C6
     try clear C5
     try clear C4
     try clear C3
     try clear C2
     try clear As
     try clear Ar
     try clear Aq
     try clear Bi
     try clear Bh
     try clear Bg
     try clear Ca
     try clear Cl
     try clear p2
     try clear B8
     try clear Ck
     obtain ⟨Af, Ak, Ah, rfl, HA, D2, Aa, Ab, Ac, Ae, Ad, HB⟩ := hrel
     cases gk with
     | zero => exact absurd HA.out (by simp [spec_l03Put.l1])
     | succ k2 =>
      have H := HA.out
      clear HA
      simp only [spec_l03Put.l1] at H
      by_cases C1 : Af < (l0_0.length : Int)
      ·rw [if_pos C1] at H
       have Dp := decide_eq_true C1
       clear C1
       by_cases D1 : 0 ≤ Af
       ·rw [if_pos D1] at H
        have c43b0 := decide_eq_true D1
        clear D1
        by_cases C0 : (Op.bytesLess a1_0.toList (((rd_T45 l0_0 Af).f0).toList)) = true
        ·rw [if_pos C0] at H
         have Do : (Op.bytesLess a1_0.toList (((rd_T45 l0_0 Af).f0).toList)) = true := C0
         clear C0
         by_cases D0 : Ak.length < 3518437208883
         ·rw [if_pos D0] at H
          have LMc45 := Aside0.mk D0
          clear D0
          obtain ⟨Ch, Ce⟩ : ∃ y_ : List (S45), y_ = (Ak ++ [(⟨(rd_T45 l0_0 Af).f0, (rd_T45 l0_0 Af).f1, (rd_T45 l0_0 Af).f2⟩ : S45)]) := ⟨_, rfl⟩
          replace H : (spec_l03Put.l1 k2 (wrap64 (Af + 1)) l0_0 a1_0 a1_1 a1_2 Ch) = some r := zrw Ce H
          have Ny182 := Aside0.mk Ce
          clear Ce
          have H' := Aside0.mk H
          clear H
          have hnb46 := Bb.out
          have hnc46 := Az.out
          have hnb47 := Ba.out
          have hnc47 := Ay.out
          have hnb48 := Am.out
          have hnc48 := Al.out
          obtain ⟨_, _⟩ := zc1 Ab
          try go_wp2
          replace Aa := zd3 Aa
          replace Ab := zd1 Ab
          replace Ac := zd1 Ac
          replace Ae := zd1 Ae
          replace Ad := zd1 Ad
          replace HB := zd2 HB
          have Cc : 0 ≤ (Af : Int) := of_decide_eq_true za
          have Cb : Af < (l0_0.length : Int) := of_decide_eq_true za
          obtain ⟨Ao, Cw, Ax, Aw, Au⟩ := at_T45 HR0_0.out Af Cc Cb
          have Bt := Au
          have Bu := Aw
          have Bv := Ax
          cases Cw
          replace Ax := zU HB.out Ax
          replace Aw := zU HB.out Aw
          replace Au := zU HB.out Au
          replace Cc := eq_true Cc
          replace Cb := eq_true Cb
          refine start_ (n := 9) (S := fun w' => w'.cell? ⟨Bk, 0, none⟩ = some (.slice (some Ao) l0_0.length c0_0) ∧ w'.cell? ⟨Ai, 0, none⟩ = some (.string a1_0) ∧ w'.cell? ⟨Ai, 1, none⟩ = some (.string a1_1) ∧ w'.cell? ⟨Ai, 2, none⟩ = some (.int .i64 a1_2) ∧ w'.cell? (Ao.add ((Af).toNat * 3)) = some (.string ((rd_T45 l0_0 Af).f0)) ∧ w'.cell? ⟨(Ao.add ((Af).toNat * 3)).block, (Ao.add ((Af).toNat * 3)).off + 1, none⟩ = some (.string ((rd_T45 l0_0 Af).f1)) ∧ w'.cell? ⟨(Ao.add ((Af).toNat * 3)).block, (Ao.add ((Af).toNat * 3)).off + 2, none⟩ = some (.int .i64 ((rd_T45 l0_0 Af).f2))) (ds := []) q9_0 (by kernel_rfl) rfl rfl ⟨zv Ab, zv Ac, zv Ac, zv Ac, (zU HB.out Bv), (zU HB.out Bu), (zU HB.out Bt)⟩ (fun hHeld => ?_); refine with_tabW spec_l03Put.tab11 spec_l03Put.bits11 (fun HT_ HW_ => ?_)
          generalize wr.drew = D8 at Aa Ab Ac Ae Ad HB Ax Aw Au hHeld ⊢
          refine zP 0 (some 48) q9_1 HT_ ?_
          refine zP 2 (some 50) q9_2 HT_ ?_
          refine zP 6 (some 54) q9_3 HT_ ?_
          refine zT 1 (some 49) q9_4 HT_ HW_ hHeld ?_
          refine zP 3 (some 51) q9_5 HT_ ?_
          refine zP 4 (some 52) q9_6 HT_ ?_
          refine zT 5 (some 53) q9_7 HT_ HW_ hHeld ?_
          refine zT 7 (some 55) q9_8 HT_ HW_ hHeld ?_
          refine zP 8 (some 56) q9_9 HT_ ?_
          refine done_ (done_of HT_.out (by kernel_rfl)) ?_
          try go_wp2
          replace Aa := zd3 Aa
          replace Ab := zd1 Ab
          replace Ac := zd1 Ac
          replace Ae := zd1 Ae
          replace Ad := zd1 Ad
          replace HB := zd2 HB
          have Cv : 0 ≤ (Af : Int) := of_decide_eq_true za
          have Cu : Af < (l0_0.length : Int) := of_decide_eq_true za
          obtain ⟨Du, D5, Bn, Bm, Bl⟩ := at_T45 HR0_0.out Af Cv Cu
          have Bq := Bl
          have Br := Bm
          have Bs := Bn
          obtain rfl : Ao = Du := (by injection D5)
          replace Bn := zU HB.out Bn
          replace Bm := zU HB.out Bm
          replace Bl := zU HB.out Bl
          replace Cv := eq_true Cv
          replace Cu := eq_true Cu
          refine start_ (n := 11) (S := fun w' => w'.cell? ⟨Bj, 0, none⟩ = some (Ah) ∧ w'.cell? ⟨Bk, 0, none⟩ = some (.slice (some Ao) l0_0.length c0_0) ∧ w'.cell? (Ao.add ((Af).toNat * 3)) = some (.string ((rd_T45 l0_0 Af).f0)) ∧ w'.cell? ⟨(Ao.add ((Af).toNat * 3)).block, (Ao.add ((Af).toNat * 3)).off + 1, none⟩ = some (.string ((rd_T45 l0_0 Af).f1)) ∧ w'.cell? ⟨(Ao.add ((Af).toNat * 3)).block, (Ao.add ((Af).toNat * 3)).off + 2, none⟩ = some (.int .i64 ((rd_T45 l0_0 Af).f2))) (ds := [10]) q9_10 (by kernel_rfl) rfl rfl ⟨zv Ad, zv Ab, (zU HB.out Bs), (zU HB.out Br), (zU HB.out Bq)⟩ (fun hHeld => ?_); refine with_tabW spec_l03Put.tab12 spec_l03Put.bits12 (fun HT_ HW_ => ?_)
          generalize D8.drew = w51 at Aa Ab Ac Ae Ad HB Bn Bm Bl hHeld ⊢
          refine zP 0 (some 57) q9_11 HT_ ?_
          refine zP 2 (some 59) q9_12 HT_ ?_
          refine zP 4 (some 61) q9_13 HT_ ?_
          refine zT 1 (some 58) q9_14 HT_ HW_ hHeld ?_
          refine zT 3 (some 60) q9_15 HT_ HW_ hHeld ?_
          refine zP 5 (some 62) q9_16 HT_ ?_
          refine zT 6 (some 63) q9_17 HT_ HW_ hHeld ?_
          refine one_ (i := 7) (N := some 64) q9_18 rfl rfl (one_of HT_.out (by kernel_rfl)) (by decide) (fun K hK => ?_)
          refine value_ (w1 := ?_) (v := ?_) (by rfl) rfl ?_ ?_
          rotate_left 2
          ·go_simp
           constructor
           ·rfl
           rfl
          refine hK.out _ _ ⟨zva Ad, zva Ab, zca (zU HB.out Bs), zca (zU HB.out Br), zca (zU HB.out Bq)⟩ (fun hHeld => ?_)
          clear hK K
          refine zN ?_
          refine one_ (i := 8) (N := some 65) q9_19 rfl rfl (one_of HT_.out (by kernel_rfl)) (by decide) (fun K hK => ?_)
          refine Kd.R_append_step k45 (w0 := w) w.heap.size (by rfl) (.tmp 58) (.tmp 64) 27 45 (.agg #[(.string ⟨#[]⟩), (.string ⟨#[]⟩), (.int .i64 0)]) 40 rfl Try.underlying27 info45 rfl (by decide) (by omega) Ah Ak (⟨(rd_T45 l0_0 Af).f0, (rd_T45 l0_0 Af).f1, (rd_T45 l0_0 Af).f2⟩ : S45) [.string ((rd_T45 l0_0 Af).f0), .string ((rd_T45 l0_0 Af).f1), .int .i64 ((rd_T45 l0_0 Af).f2)] (fun k_ => k_ ≠ Ai) (fun _ => False) rfl rfl ?aP (fun _ hk => hk.elim) ?aF ?aO ?aB ?aS ?aL ?_
          (case aP => exact k45_mkM _ _ _ (⟨(rd_T45 l0_0 Af).f0, (rd_T45 l0_0 Af).f1, (rd_T45 l0_0 Af).f2⟩ : S45))
          (case aB => exact (zw HB))
          (case aF => exact (fun k_ hk => Kd.freshB (g := Ai) (o := .cells #[.string a1_0, .string a1_1, .int .i64 a1_2] 45 (0, 0)) (zk Ac) k_ hk))
          (case aO => exact (zo Aa.out))
          (case aS => exact (below_size (zw HB)))
          (case aL => have := LMc45.out; omega)
          intro v183 D7 ho hb hg hat
          rw [← Ny182.out] at ho
          replace Ab := zbg Ab hg Aa
          replace Ac := Aside0.mk (blk_grown (g := Ai) (o := .cells #[.string a1_0, .string a1_1, .int .i64 a1_2] 45 (0, 0)) (zk Ac) hg (Kd.R_away Aa.out (fun _ hk => hk)))
          replace Ae := zbg Ae hg Aa
          replace Ad := zbg Ad hg Aa
          replace HB := Aside0.mk (hb)
          have Cq := Aside0.mk (ho)
          clear Aa
          clear ho hb hg hat
          obtain ⟨Dx, Dl, Di⟩ := Kd.R_slice Cq.out
          (first | subst Di | (injection Di with f1_ f2_ f3_; have f4_ := f1_.symm; have f5_ := f3_.symm; clear f1_ f2_ f3_; subst f4_; subst f5_))
          refine hK.out _ _ ⟨zv Ad, zv Ab, (zU HB.out Bs), (zU HB.out Br), (zU HB.out Bq)⟩ (fun hHeld => ?_)
          clear hK K
          refine zN ?_
          refine zP 9 (some 66) q9_20 HT_ ?_
          refine last_ (i := 10) (N := none) q9_21 rfl rfl (one_of HT_.out (by kernel_rfl)) (by decide) (fun K hK => ?_)
          have hs54 : D7.cell? ⟨Bj, 0, none⟩ = some (Ah) := zv Ad
          have hfs54 := blk_frozen Ad.out 0
          have hns54_0 := Am.out
          have hns54_1 := Bf.out
          have hns54_2 := Be.out
          have hms54_0 := Al.out
          have hms54_1 := Bd.out
          have hms54_2 := Bc.out
          refine skip_ (w1 := ?_) (by rfl) rfl ?_ ?_
          rotate_left
          ·go_simp
           rfl
          refine hK.out _ _ ?_
          clear hK K
          refine done_ (done_of HT_.out (by kernel_rfl)) ?_
          try go_wp2
          go_roundg k2
          case measure => have := Ct.out; have := D2.out; omega
          case rel => exact ⟨(wrap64 (Af + 1)), (Ch), (.slice Dx Ch.length Dl), zf, H', ⟨by have := Ct.out; have := D2.out; omega⟩, ⟨zo (Kd.R_mono (Kd.R_far (p := ⟨Bj, 0, none⟩) (Kd.R_types Cq.out Ad.out (by decide)) (fun _ hk => hk.2) (.slice Dx Ch.length Dl)) (fun _ hk => hk.1))⟩, ⟨zkf Ab⟩, ⟨zkf Ac⟩, ⟨zkf Ae⟩, ⟨zj Ad⟩, ⟨zw HB⟩⟩
         rw [if_neg D0] at H
         exact absurd H (by simp)
        rw [if_neg C0] at H
        have Do : (Op.bytesLess a1_0.toList (((rd_T45 l0_0 Af).f0).toList)) = false := by simpa using C0
        clear C0
        have H' := Aside0.mk H
        clear H
        have hnb55 := Bb.out
        have hnc55 := Az.out
        have hnb56 := Ba.out
        have hnc56 := Ay.out
        have hnb57 := Am.out
        have hnc57 := Al.out
        obtain ⟨_, _⟩ := zc1 Ab
        try go_wp2
        replace Aa := zd3 Aa
        replace Ab := zd1 Ab
        replace Ac := zd1 Ac
        replace Ae := zd1 Ae
        replace Ad := zd1 Ad
        replace HB := zd2 HB
        have Cc : 0 ≤ (Af : Int) := of_decide_eq_true za
        have Cb : Af < (l0_0.length : Int) := of_decide_eq_true za
        obtain ⟨Ao, Cw, Ax, Aw, Au⟩ := at_T45 HR0_0.out Af Cc Cb
        have Bt := Au
        have Bu := Aw
        have Bv := Ax
        cases Cw
        replace Ax := zU HB.out Ax
        replace Aw := zU HB.out Aw
        replace Au := zU HB.out Au
        replace Cc := eq_true Cc
        replace Cb := eq_true Cb
        refine start_ (n := 9) (S := fun w' => w'.cell? ⟨Bk, 0, none⟩ = some (.slice (some Ao) l0_0.length c0_0) ∧ w'.cell? ⟨Ai, 0, none⟩ = some (.string a1_0) ∧ w'.cell? ⟨Ai, 1, none⟩ = some (.string a1_1) ∧ w'.cell? ⟨Ai, 2, none⟩ = some (.int .i64 a1_2) ∧ w'.cell? (Ao.add ((Af).toNat * 3)) = some (.string ((rd_T45 l0_0 Af).f0)) ∧ w'.cell? ⟨(Ao.add ((Af).toNat * 3)).block, (Ao.add ((Af).toNat * 3)).off + 1, none⟩ = some (.string ((rd_T45 l0_0 Af).f1)) ∧ w'.cell? ⟨(Ao.add ((Af).toNat * 3)).block, (Ao.add ((Af).toNat * 3)).off + 2, none⟩ = some (.int .i64 ((rd_T45 l0_0 Af).f2))) (ds := []) q9_0 (by kernel_rfl) rfl rfl ⟨zv Ab, zv Ac, zv Ac, zv Ac, (zU HB.out Bv), (zU HB.out Bu), (zU HB.out Bt)⟩ (fun hHeld => ?_); refine with_tabW spec_l03Put.tab11 spec_l03Put.bits11 (fun HT_ HW_ => ?_)
        generalize wr.drew = w59 at Aa Ab Ac Ae Ad HB Ax Aw Au hHeld ⊢
        refine zP 0 (some 48) q9_1 HT_ ?_
        refine zP 2 (some 50) q9_2 HT_ ?_
        refine zP 6 (some 54) q9_3 HT_ ?_
        refine zT 1 (some 49) q9_4 HT_ HW_ hHeld ?_
        refine zP 3 (some 51) q9_5 HT_ ?_
        refine zP 4 (some 52) q9_6 HT_ ?_
        refine zT 5 (some 53) q9_7 HT_ HW_ hHeld ?_
        refine zT 7 (some 55) q9_8 HT_ HW_ hHeld ?_
        refine zP 8 (some 56) q9_9 HT_ ?_
        refine done_ (done_of HT_.out (by kernel_rfl)) ?_
        try go_wp2
        go_roundg k2
        case measure => have := Ct.out; have := D2.out; omega
        case rel => exact ⟨(wrap64 (Af + 1)), (Ak), (Ah), zf, H', ⟨by have := Ct.out; have := D2.out; omega⟩, ⟨zo Aa.out⟩, ⟨zkf Ab⟩, ⟨zkf Ac⟩, ⟨zkf Ae⟩, ⟨zkf Ad⟩, ⟨zw HB⟩⟩
       rw [if_neg D1] at H
       exact absurd H (by simp)
      rw [if_neg C1] at H
      have Dp := decide_eq_false C1
      clear C1
      obtain rfl := Option.some.inj H
      have hnb60 := Bb.out
      have hnc60 := Az.out
      have hnb61 := Ba.out
      have hnc61 := Ay.out
      have hnb62 := Am.out
      have hnc62 := Al.out
      obtain ⟨_, _⟩ := zc1 Ab
      have hnb64 := Bd.out
      have hnc64 := Bf.out
      have hnb65 := Bc.out
      have hnc65 := Be.out
      obtain ⟨_, _⟩ := zc1 Ad
      obtain ⟨Dw, Dk, D3⟩ := Kd.R_slice Aa.out
      subst D3
      have hnb68 := Bo.out
      have hnc68 := Bp.out
      obtain ⟨_, _⟩ := zc1 Ae
      go_wp2
      refine bodyPost_ret (results_cell_row rfl _ _ Cd 29 #[.slice Dw Ak.length Dk] (0, 0) _ rfl (zj Ae) Try.underlying29 rfl (by kernel_rfl)) rfl ?_
      exact ⟨_, ze, zo (Kd.R_mono (Kd.R_far (p := ⟨Cd, 0, none⟩) (Kd.R_types Aa.out Ae.out (by decide)) (fun _ hk => hk.2) (.slice Dw Ak.length Dk)) (fun _ hk => trivial)), zw HB⟩
   rw [if_neg Dq] at H
   exact absurd H (by simp)

end Go.Proofs.Ytdiecogmaiglaaa.PFnActs
