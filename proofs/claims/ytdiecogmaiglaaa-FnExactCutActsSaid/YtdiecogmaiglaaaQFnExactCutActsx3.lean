import Derived.Test.YtdiecogmaiglaaaQFnExactCutActsx0
import Derived.Test.YtdiecogmaiglaaaQFnExactCutActsx2
namespace Go.Proofs.Ytdiecogmaiglaaa.PFnExactCutActs
open Go.RowKit Go.Proofs.YtdiecogmaiglaaaW.PrintWords Go.Proofs.YtdiecogmaiglaaaW.PrintLast Go.Proofs.YtdiecogmaiglaaaW.PrintMore
attribute [local go_sem] max2_int min2_int max_two min_two max_three min_three max_four min_four   -- for this text's walks alone
set_option linter.unusedVariables false
set_option linter.unusedSimpArgs false

/-! ### laws_heldFileS: function 63 -/
def laws_heldFileS.l0 : Nat → List (S45) → Int → Int → Option (Int)
 | 0, _, _, _ => none
 | k + 1, x0, x1, x5 => if x5 < (x0.length : Int) then (if 0 ≤ x5 then ((laws_markText.f k x1).bind fun t151 => (if ((rd_T45 x0 x5).f0).toList = t151.toList then ((laws_markText.f k (wrap64 (x1 + 1))).bind fun t153 => (if ((rd_T45 x0 x5).f1).toList = t153.toList then (if ((rd_T45 x0 x5).f2) = (wrap64 ((wrap64 (x1 + 1)) + 1)) then (laws_heldFileS.l0 k x0 (wrap64 ((wrap64 ((wrap64 (x1 + 1)) + 1)) + 1)) (wrap64 (x5 + 1))) else (some (-1))) else (some (-1)))) else (some (-1)))) else (none)) else (some x1)
def laws_heldFileS.f (k : Nat) (l0 : List (S45)) (a1 : Int) : Option (Int) := laws_heldFileS.l0 k l0 a1 0
theorem laws_heldFileS.mono_l : ∀ k, (∀ y0 y1 y2, LeO (laws_heldFileS.l0 k y0 y1 y2) (laws_heldFileS.l0 (k + 1) y0 y1 y2))
 | 0 => fun _ _ _ r h => by simp [laws_heldFileS.l0] at h
 | k + 1 => by
  have ih0 := laws_heldFileS.mono_l k
  intro y0 y1 y2
  unfold laws_heldFileS.l0
  repeat' first
  | (with_reducible exact ih0 _ _ _)
  | (with_reducible exact laws_markText.mono _ _)
  | (with_reducible exact LeO.refl _)
  | (with_reducible exact LeO.none _)
  | (with_reducible refine LeO.ite ?_ ?_)
  | (with_reducible refine LeO.bind ?_ (fun _ => ?_))
  | exact ih0 _ _ _
  | exact laws_markText.mono _ _
  | exact LeO.none _
  | refine LeO.ite ?_ ?_
  | refine LeO.bind ?_ (fun _ => ?_)
theorem laws_heldFileS.mono : ∀ a0 a1 k, LeO (laws_heldFileS.f k a0 a1) (laws_heldFileS.f (k + 1) a0 a1) := by
 intro a0 a1 k
 have ih0 := laws_heldFileS.mono_l k
 unfold laws_heldFileS.f
 repeat' first
   | (with_reducible exact ih0 _ _ _)
   | (with_reducible exact laws_markText.mono _ _)
   | (with_reducible exact LeO.refl _)
   | (with_reducible exact LeO.none _)
   | (with_reducible refine LeO.ite ?_ ?_)
   | (with_reducible refine LeO.bind ?_ (fun _ => ?_))
   | exact ih0 _ _ _
   | exact laws_markText.mono _ _
   | exact LeO.none _
   | refine LeO.ite ?_ ?_
   | refine LeO.bind ?_ (fun _ => ?_)
def laws_heldFileS.T4 : Bool × List (List Nat × List Nat) := (true, [([], []), ([], []), ([0, 1], [0, 1]), ([2], [2]), ([3], [3]), ([], []), ([5], [5]), ([4, 6], [4, 6])])
def laws_heldFileS.B4 : List Nat := [0, 0, 3, 7, 15, 0, 32, 127]
theorem laws_heldFileS.tab4 : rtab .any (opsOf Try.f63 4) = laws_heldFileS.T4 := by kernel_rfl
theorem laws_heldFileS.bits4 : waitsOk laws_heldFileS.T4.2 laws_heldFileS.B4 = true := by kernel_rfl
def laws_heldFileS.T7 : Bool × List (List Nat × List Nat) := (true, [([], []), ([], []), ([0, 1], [0, 1]), ([2], [2]), ([3], [3]), ([], []), ([5], [5]), ([4, 6], [4, 6])])
def laws_heldFileS.B7 : List Nat := [0, 0, 3, 7, 15, 0, 32, 127]
theorem laws_heldFileS.tab7 : rtab .any (opsOf Try.f63 7) = laws_heldFileS.T7 := by kernel_rfl
theorem laws_heldFileS.bits7 : waitsOk laws_heldFileS.T7.2 laws_heldFileS.B7 = true := by kernel_rfl
abbrev q3_0 := #[o_,o_,o_,o_,o_,o_,o_,o_]
abbrev q3_1 := #[i_,o_,o_,o_,o_,o_,o_,o_]
abbrev q3_2 := #[i_,i_,o_,o_,o_,o_,o_,o_]
abbrev q3_3 := #[i_,i_,i_,o_,o_,o_,o_,o_]
abbrev q3_4 := #[i_,i_,i_,i_,o_,o_,o_,o_]
abbrev q3_5 := #[i_,i_,i_,i_,o_,i_,o_,o_]
abbrev q3_6 := #[i_,i_,i_,i_,i_,i_,o_,o_]
abbrev q3_7 := #[i_,i_,i_,i_,i_,i_,i_,o_]
abbrev q3_8 := #[i_,i_,i_,i_,i_,i_,i_,i_]
set_option maxHeartbeats 8000000 in
set_option maxRecDepth 100000 in
theorem laws_heldFileS.calls (k : Nat) (A0 : Option Addr) (c0 : Nat) (l0 : List (S45)) (a1 : Int) (r : Int) (w : World) (hr0 : Kd.C k45 w A0 l0.length l0) (hc0 : l0.length ≤ c0) (h : laws_heldFileS.f k l0 a1 = some r) :
  Calls Try.prog 63 #[.slice A0 l0.length c0, .int .i64 a1] w fun e w' => e = .returned (.int .i64 r) ∧ Below w.heap.size w w' := by
 have HR0 := Aside0.mk hr0
 have HC0 := Aside0.mk hc0
 clear hr0 hc0
 have HB := Aside0.mk (Below.refl w.heap.size w)
 have H : (laws_heldFileS.l0 k l0 a1 0) = some r := h
 clear h
 have H' := Aside0.mk H
 clear H
 go_enter Try.func63, Try.ntmps63
 go_wp2
 go_loopg [1, 5] k (fun kq v1 v5 w' => ∃ (Al : Int) (Aa : Int), v1 = .int .i64 Al ∧ v5 = .int .i64 Aa ∧ Aside0 (laws_heldFileS.l0 kq l0 Al Aa = some r) ∧ Aside0 (kq ≤ k) ∧ Aside0 (Below w.heap.size w w'))
 case atStart => exact ⟨(a1), (0), zf, zf, H', ⟨Nat.le_refl _⟩, ⟨zw HB⟩⟩
 case round =>
  clear H'
  try clear p2
  obtain ⟨Al, Aa, rfl, rfl, HA, Bp, HB⟩ := hrel
  cases gk with
  | zero => exact absurd HA.out (by simp [laws_heldFileS.l0])
  | succ k1 =>
   have H := HA.out
   clear HA
   simp only [laws_heldFileS.l0] at H
   by_cases c3 : Aa < (l0.length : Int)
   ·rw [if_pos c3] at H
    have Bo := decide_eq_true c3
    clear c3
    by_cases c4 : 0 ≤ Aa
    ·rw [if_pos c4] at H
     have c4b0 := decide_eq_true c4
     clear c4
     replace H := Option.bind_eq_some_iff.mp H
     obtain ⟨Az, Br, H⟩ := H
     have A5 := Aside0.mk Br
     clear Br
     by_cases c6 : ((rd_T45 l0 Aa).f0).toList = Az.toList
     ·rw [if_pos c6] at H
      have Bn : (((rd_T45 l0 Aa).f0).toList == Az.toList) = true := beq_iff_eq.mpr c6
      have Bm : (((rd_T45 l0 Aa).f0).toList != Az.toList) = false := bne_eq_false_iff_eq.mpr c6
      clear c6
      replace H := Option.bind_eq_some_iff.mp H
      obtain ⟨Ba, Bq, H⟩ := H
      have A7 := Aside0.mk Bq
      clear Bq
      by_cases c8 : ((rd_T45 l0 Aa).f1).toList = Ba.toList
      ·rw [if_pos c8] at H
       have Bl : (((rd_T45 l0 Aa).f1).toList == Ba.toList) = true := beq_iff_eq.mpr c8
       have Bk : (((rd_T45 l0 Aa).f1).toList != Ba.toList) = false := bne_eq_false_iff_eq.mpr c8
       clear c8
       by_cases c9 : ((rd_T45 l0 Aa).f2) = (wrap64 ((wrap64 (Al + 1)) + 1))
       ·rw [if_pos c9] at H
        have Bj : (((rd_T45 l0 Aa).f2) == (wrap64 ((wrap64 (Al + 1)) + 1))) = true := beq_iff_eq.mpr c9
        have Bi : (((rd_T45 l0 Aa).f2) != (wrap64 ((wrap64 (Al + 1)) + 1))) = false := bne_eq_false_iff_eq.mpr c9
        clear c9
        have H' := Aside0.mk H
        clear H
        try go_wp2
        replace HB := Aside0.mk (below_drew1 HB.out)
        have Ar : 0 ≤ (Aa : Int) := of_decide_eq_true za
        have Aq : Aa < (l0.length : Int) := of_decide_eq_true za
        obtain ⟨Ab, Be, Ae, Ad, Ac⟩ := at_T45 HR0.out Aa Ar Aq
        have Ai := Ac
        have Aj := Ad
        have Ak := Ae
        cases Be
        replace Ae := zU HB.out Ae
        replace Ad := zU HB.out Ad
        replace Ac := zU HB.out Ac
        replace Ar := eq_true Ar
        replace Aq := eq_true Aq
        refine start_ (n := 8) (S := fun w' => w'.cell? (Ab.add ((Aa).toNat * 3)) = some (.string ((rd_T45 l0 Aa).f0)) ∧ w'.cell? ⟨(Ab.add ((Aa).toNat * 3)).block, (Ab.add ((Aa).toNat * 3)).off + 1, none⟩ = some (.string ((rd_T45 l0 Aa).f1)) ∧ w'.cell? ⟨(Ab.add ((Aa).toNat * 3)).block, (Ab.add ((Aa).toNat * 3)).off + 2, none⟩ = some (.int .i64 ((rd_T45 l0 Aa).f2))) (ds := []) q3_0 (by kernel_rfl) rfl rfl ⟨(zU HB.out Ak), (zU HB.out Aj), (zU HB.out Ai)⟩ (fun hHeld => ?_); refine with_tabW laws_heldFileS.tab4 laws_heldFileS.bits4 (fun HT_ HW_ => ?_)
        generalize wr.drew = w10 at HB Ae Ad Ac hHeld ⊢
        refine zP 0 (some 12) q3_1 HT_ ?_
        refine zP 1 (some 13) q3_2 HT_ ?_
        refine zP 2 (some 14) q3_3 HT_ ?_
        refine zP 3 (some 15) q3_4 HT_ ?_
        refine zP 5 (some 17) q3_5 HT_ ?_
        refine zT 4 (some 16) q3_6 HT_ HW_ hHeld ?_
        refine one_ (i := 6) (N := some 18) q3_7 rfl rfl (one_of HT_.out (by kernel_rfl)) (by decide) (fun K hK => ?_)
        refine zH Try.func69 #[.int .i64 Al] ?_
        with_reducible refine (laws_markText.calls k1 Al Az _ A5.out).mono ?_
        rintro e Bu ⟨rfl, hb⟩
        refine ⟨_, rfl, ?_⟩
        replace HB := zs HB hb
        (try clear hb)
        (try clear hb2)
        (try clear hk)
        (try clear hi)
        refine hK.out _ _ ⟨(zU HB.out Ak), (zU HB.out Aj), (zU HB.out Ai)⟩ (fun hHeld => ?_)
        clear hK K
        refine zN ?_
        refine zP 7 (some 19) q3_8 HT_ ?_
        refine done_ (done_of HT_.out (by kernel_rfl)) ?_
        try go_wp2
        replace HB := Aside0.mk (below_drew1 HB.out)
        have Ay : 0 ≤ (Aa : Int) := of_decide_eq_true za
        have Ax : Aa < (l0.length : Int) := of_decide_eq_true za
        obtain ⟨Bb, Bf, Ah, Ag, Af⟩ := at_T45 HR0.out Aa Ay Ax
        have Am := Af
        have Ao := Ag
        have Ap := Ah
        obtain rfl : Ab = Bb := (by injection Bf)
        replace Ah := zU HB.out Ah
        replace Ag := zU HB.out Ag
        replace Af := zU HB.out Af
        replace Ay := eq_true Ay
        replace Ax := eq_true Ax
        refine start_ (n := 8) (S := fun w' => w'.cell? (Ab.add ((Aa).toNat * 3)) = some (.string ((rd_T45 l0 Aa).f0)) ∧ w'.cell? ⟨(Ab.add ((Aa).toNat * 3)).block, (Ab.add ((Aa).toNat * 3)).off + 1, none⟩ = some (.string ((rd_T45 l0 Aa).f1)) ∧ w'.cell? ⟨(Ab.add ((Aa).toNat * 3)).block, (Ab.add ((Aa).toNat * 3)).off + 2, none⟩ = some (.int .i64 ((rd_T45 l0 Aa).f2))) (ds := []) q3_0 (by kernel_rfl) rfl rfl ⟨(zU HB.out Ap), (zU HB.out Ao), (zU HB.out Am)⟩ (fun hHeld => ?_); refine with_tabW laws_heldFileS.tab7 laws_heldFileS.bits7 (fun HT_ HW_ => ?_)
        generalize Bu.drew = w12 at HB Ah Ag Af hHeld ⊢
        refine zP 0 (some 22) q3_1 HT_ ?_
        refine zP 1 (some 23) q3_2 HT_ ?_
        refine zP 2 (some 24) q3_3 HT_ ?_
        refine zP 3 (some 25) q3_4 HT_ ?_
        refine zP 5 (some 27) q3_5 HT_ ?_
        refine zT 4 (some 26) q3_6 HT_ HW_ hHeld ?_
        refine one_ (i := 6) (N := some 28) q3_7 rfl rfl (one_of HT_.out (by kernel_rfl)) (by decide) (fun K hK => ?_)
        refine zH Try.func69 #[.int .i64 (wrap64 (Al + 1))] ?_
        with_reducible refine (laws_markText.calls k1 (wrap64 (Al + 1)) Ba _ A7.out).mono ?_
        rintro e w13 ⟨rfl, hb⟩
        refine ⟨_, rfl, ?_⟩
        replace HB := zs HB hb
        (try clear hb)
        (try clear hb2)
        (try clear hk)
        (try clear hi)
        refine hK.out _ _ ⟨(zU HB.out Ap), (zU HB.out Ao), (zU HB.out Am)⟩ (fun hHeld => ?_)
        clear hK K
        refine zN ?_
        refine zP 7 (some 29) q3_8 HT_ ?_
        refine done_ (done_of HT_.out (by kernel_rfl)) ?_
        have Bd : 0 ≤ (Aa : Int) := of_decide_eq_true za
        have Bc : Aa < (l0.length : Int) := of_decide_eq_true za
        obtain ⟨Bg, Bh, Aw, Au, As⟩ := at_T45 HR0.out Aa Bd Bc
        obtain rfl : Ab = Bg := (by injection Bh)
        replace Aw := zU HB.out Aw
        replace Au := zU HB.out Au
        replace As := zU HB.out As
        replace Bd := eq_true Bd
        replace Bc := eq_true Bc
        try go_wp2
        go_roundg k1
        case measure => have := Bp.out; omega
        case rel => exact ⟨(wrap64 ((wrap64 ((wrap64 (Al + 1)) + 1)) + 1)), (wrap64 (Aa + 1)), zf, zf, H', ⟨by have := Bp.out; omega⟩, ⟨zw HB⟩⟩
       rw [if_neg c9] at H
       have Bj : (((rd_T45 l0 Aa).f2) == (wrap64 ((wrap64 (Al + 1)) + 1))) = false := beq_eq_false_iff_ne.mpr c9
       have Bi : (((rd_T45 l0 Aa).f2) != (wrap64 ((wrap64 (Al + 1)) + 1))) = true := bne_iff_ne.mpr c9
       obtain rfl := Option.some.inj H
       try go_wp2
       replace HB := Aside0.mk (below_drew1 HB.out)
       have Ar : 0 ≤ (Aa : Int) := of_decide_eq_true za
       have Aq : Aa < (l0.length : Int) := of_decide_eq_true za
       obtain ⟨Ab, Be, Ae, Ad, Ac⟩ := at_T45 HR0.out Aa Ar Aq
       have Ai := Ac
       have Aj := Ad
       have Ak := Ae
       cases Be
       replace Ae := zU HB.out Ae
       replace Ad := zU HB.out Ad
       replace Ac := zU HB.out Ac
       replace Ar := eq_true Ar
       replace Aq := eq_true Aq
       refine start_ (n := 8) (S := fun w' => w'.cell? (Ab.add ((Aa).toNat * 3)) = some (.string ((rd_T45 l0 Aa).f0)) ∧ w'.cell? ⟨(Ab.add ((Aa).toNat * 3)).block, (Ab.add ((Aa).toNat * 3)).off + 1, none⟩ = some (.string ((rd_T45 l0 Aa).f1)) ∧ w'.cell? ⟨(Ab.add ((Aa).toNat * 3)).block, (Ab.add ((Aa).toNat * 3)).off + 2, none⟩ = some (.int .i64 ((rd_T45 l0 Aa).f2))) (ds := []) q3_0 (by kernel_rfl) rfl rfl ⟨(zU HB.out Ak), (zU HB.out Aj), (zU HB.out Ai)⟩ (fun hHeld => ?_); refine with_tabW laws_heldFileS.tab4 laws_heldFileS.bits4 (fun HT_ HW_ => ?_)
       generalize wr.drew = w14 at HB Ae Ad Ac hHeld ⊢
       refine zP 0 (some 12) q3_1 HT_ ?_
       refine zP 1 (some 13) q3_2 HT_ ?_
       refine zP 2 (some 14) q3_3 HT_ ?_
       refine zP 3 (some 15) q3_4 HT_ ?_
       refine zP 5 (some 17) q3_5 HT_ ?_
       refine zT 4 (some 16) q3_6 HT_ HW_ hHeld ?_
       refine one_ (i := 6) (N := some 18) q3_7 rfl rfl (one_of HT_.out (by kernel_rfl)) (by decide) (fun K hK => ?_)
       refine zH Try.func69 #[.int .i64 Al] ?_
       with_reducible refine (laws_markText.calls k1 Al Az _ A5.out).mono ?_
       rintro e Bt ⟨rfl, hb⟩
       refine ⟨_, rfl, ?_⟩
       replace HB := zs HB hb
       (try clear hb)
       (try clear hb2)
       (try clear hk)
       (try clear hi)
       refine hK.out _ _ ⟨(zU HB.out Ak), (zU HB.out Aj), (zU HB.out Ai)⟩ (fun hHeld => ?_)
       clear hK K
       refine zN ?_
       refine zP 7 (some 19) q3_8 HT_ ?_
       refine done_ (done_of HT_.out (by kernel_rfl)) ?_
       try go_wp2
       replace HB := Aside0.mk (below_drew1 HB.out)
       have Ay : 0 ≤ (Aa : Int) := of_decide_eq_true za
       have Ax : Aa < (l0.length : Int) := of_decide_eq_true za
       obtain ⟨Bb, Bf, Ah, Ag, Af⟩ := at_T45 HR0.out Aa Ay Ax
       have Am := Af
       have Ao := Ag
       have Ap := Ah
       obtain rfl : Ab = Bb := (by injection Bf)
       replace Ah := zU HB.out Ah
       replace Ag := zU HB.out Ag
       replace Af := zU HB.out Af
       replace Ay := eq_true Ay
       replace Ax := eq_true Ax
       refine start_ (n := 8) (S := fun w' => w'.cell? (Ab.add ((Aa).toNat * 3)) = some (.string ((rd_T45 l0 Aa).f0)) ∧ w'.cell? ⟨(Ab.add ((Aa).toNat * 3)).block, (Ab.add ((Aa).toNat * 3)).off + 1, none⟩ = some (.string ((rd_T45 l0 Aa).f1)) ∧ w'.cell? ⟨(Ab.add ((Aa).toNat * 3)).block, (Ab.add ((Aa).toNat * 3)).off + 2, none⟩ = some (.int .i64 ((rd_T45 l0 Aa).f2))) (ds := []) q3_0 (by kernel_rfl) rfl rfl ⟨(zU HB.out Ap), (zU HB.out Ao), (zU HB.out Am)⟩ (fun hHeld => ?_); refine with_tabW laws_heldFileS.tab7 laws_heldFileS.bits7 (fun HT_ HW_ => ?_)
       generalize Bt.drew = w16 at HB Ah Ag Af hHeld ⊢
       refine zP 0 (some 22) q3_1 HT_ ?_
       refine zP 1 (some 23) q3_2 HT_ ?_
       refine zP 2 (some 24) q3_3 HT_ ?_
       refine zP 3 (some 25) q3_4 HT_ ?_
       refine zP 5 (some 27) q3_5 HT_ ?_
       refine zT 4 (some 26) q3_6 HT_ HW_ hHeld ?_
       refine one_ (i := 6) (N := some 28) q3_7 rfl rfl (one_of HT_.out (by kernel_rfl)) (by decide) (fun K hK => ?_)
       refine zH Try.func69 #[.int .i64 (wrap64 (Al + 1))] ?_
       with_reducible refine (laws_markText.calls k1 (wrap64 (Al + 1)) Ba _ A7.out).mono ?_
       rintro e w17 ⟨rfl, hb⟩
       refine ⟨_, rfl, ?_⟩
       replace HB := zs HB hb
       (try clear hb)
       (try clear hb2)
       (try clear hk)
       (try clear hi)
       refine hK.out _ _ ⟨(zU HB.out Ap), (zU HB.out Ao), (zU HB.out Am)⟩ (fun hHeld => ?_)
       clear hK K
       refine zN ?_
       refine zP 7 (some 29) q3_8 HT_ ?_
       refine done_ (done_of HT_.out (by kernel_rfl)) ?_
       have Bd : 0 ≤ (Aa : Int) := of_decide_eq_true za
       have Bc : Aa < (l0.length : Int) := of_decide_eq_true za
       obtain ⟨Bg, Bh, Aw, Au, As⟩ := at_T45 HR0.out Aa Bd Bc
       obtain rfl : Ab = Bg := (by injection Bh)
       replace Aw := zU HB.out Aw
       replace Au := zU HB.out Au
       replace As := zU HB.out As
       replace Bd := eq_true Bd
       replace Bc := eq_true Bc
       try go_wp2
       go_ret
       exact ⟨ze, zw HB⟩
      rw [if_neg c8] at H
      have Bl : (((rd_T45 l0 Aa).f1).toList == Ba.toList) = false := beq_eq_false_iff_ne.mpr c8
      have Bk : (((rd_T45 l0 Aa).f1).toList != Ba.toList) = true := bne_iff_ne.mpr c8
      obtain rfl := Option.some.inj H
      try go_wp2
      replace HB := Aside0.mk (below_drew1 HB.out)
      have Ar : 0 ≤ (Aa : Int) := of_decide_eq_true za
      have Aq : Aa < (l0.length : Int) := of_decide_eq_true za
      obtain ⟨Ab, Be, Ae, Ad, Ac⟩ := at_T45 HR0.out Aa Ar Aq
      have Ai := Ac
      have Aj := Ad
      have Ak := Ae
      cases Be
      replace Ae := zU HB.out Ae
      replace Ad := zU HB.out Ad
      replace Ac := zU HB.out Ac
      replace Ar := eq_true Ar
      replace Aq := eq_true Aq
      refine start_ (n := 8) (S := fun w' => w'.cell? (Ab.add ((Aa).toNat * 3)) = some (.string ((rd_T45 l0 Aa).f0)) ∧ w'.cell? ⟨(Ab.add ((Aa).toNat * 3)).block, (Ab.add ((Aa).toNat * 3)).off + 1, none⟩ = some (.string ((rd_T45 l0 Aa).f1)) ∧ w'.cell? ⟨(Ab.add ((Aa).toNat * 3)).block, (Ab.add ((Aa).toNat * 3)).off + 2, none⟩ = some (.int .i64 ((rd_T45 l0 Aa).f2))) (ds := []) q3_0 (by kernel_rfl) rfl rfl ⟨(zU HB.out Ak), (zU HB.out Aj), (zU HB.out Ai)⟩ (fun hHeld => ?_); refine with_tabW laws_heldFileS.tab4 laws_heldFileS.bits4 (fun HT_ HW_ => ?_)
      generalize wr.drew = w18 at HB Ae Ad Ac hHeld ⊢
      refine zP 0 (some 12) q3_1 HT_ ?_
      refine zP 1 (some 13) q3_2 HT_ ?_
      refine zP 2 (some 14) q3_3 HT_ ?_
      refine zP 3 (some 15) q3_4 HT_ ?_
      refine zP 5 (some 17) q3_5 HT_ ?_
      refine zT 4 (some 16) q3_6 HT_ HW_ hHeld ?_
      refine one_ (i := 6) (N := some 18) q3_7 rfl rfl (one_of HT_.out (by kernel_rfl)) (by decide) (fun K hK => ?_)
      refine zH Try.func69 #[.int .i64 Al] ?_
      with_reducible refine (laws_markText.calls k1 Al Az _ A5.out).mono ?_
      rintro e Bs ⟨rfl, hb⟩
      refine ⟨_, rfl, ?_⟩
      replace HB := zs HB hb
      (try clear hb)
      (try clear hb2)
      (try clear hk)
      (try clear hi)
      refine hK.out _ _ ⟨(zU HB.out Ak), (zU HB.out Aj), (zU HB.out Ai)⟩ (fun hHeld => ?_)
      clear hK K
      refine zN ?_
      refine zP 7 (some 19) q3_8 HT_ ?_
      refine done_ (done_of HT_.out (by kernel_rfl)) ?_
      try go_wp2
      replace HB := Aside0.mk (below_drew1 HB.out)
      have Ay : 0 ≤ (Aa : Int) := of_decide_eq_true za
      have Ax : Aa < (l0.length : Int) := of_decide_eq_true za
      obtain ⟨Bb, Bf, Ah, Ag, Af⟩ := at_T45 HR0.out Aa Ay Ax
      have Am := Af
      have Ao := Ag
      have Ap := Ah
      obtain rfl : Ab = Bb := (by injection Bf)
      replace Ah := zU HB.out Ah
      replace Ag := zU HB.out Ag
      replace Af := zU HB.out Af
      replace Ay := eq_true Ay
      replace Ax := eq_true Ax
      refine start_ (n := 8) (S := fun w' => w'.cell? (Ab.add ((Aa).toNat * 3)) = some (.string ((rd_T45 l0 Aa).f0)) ∧ w'.cell? ⟨(Ab.add ((Aa).toNat * 3)).block, (Ab.add ((Aa).toNat * 3)).off + 1, none⟩ = some (.string ((rd_T45 l0 Aa).f1)) ∧ w'.cell? ⟨(Ab.add ((Aa).toNat * 3)).block, (Ab.add ((Aa).toNat * 3)).off + 2, none⟩ = some (.int .i64 ((rd_T45 l0 Aa).f2))) (ds := []) q3_0 (by kernel_rfl) rfl rfl ⟨(zU HB.out Ap), (zU HB.out Ao), (zU HB.out Am)⟩ (fun hHeld => ?_); refine with_tabW laws_heldFileS.tab7 laws_heldFileS.bits7 (fun HT_ HW_ => ?_)
      generalize Bs.drew = w20 at HB Ah Ag Af hHeld ⊢
      refine zP 0 (some 22) q3_1 HT_ ?_
      refine zP 1 (some 23) q3_2 HT_ ?_
      refine zP 2 (some 24) q3_3 HT_ ?_
      refine zP 3 (some 25) q3_4 HT_ ?_
      refine zP 5 (some 27) q3_5 HT_ ?_
      refine zT 4 (some 26) q3_6 HT_ HW_ hHeld ?_
      refine one_ (i := 6) (N := some 28) q3_7 rfl rfl (one_of HT_.out (by kernel_rfl)) (by decide) (fun K hK => ?_)
      refine zH Try.func69 #[.int .i64 (wrap64 (Al + 1))] ?_
      with_reducible refine (laws_markText.calls k1 (wrap64 (Al + 1)) Ba _ A7.out).mono ?_
      rintro e w21 ⟨rfl, hb⟩
      refine ⟨_, rfl, ?_⟩
      replace HB := zs HB hb
      (try clear hb)
      (try clear hb2)
      (try clear hk)
      (try clear hi)
      refine hK.out _ _ ⟨(zU HB.out Ap), (zU HB.out Ao), (zU HB.out Am)⟩ (fun hHeld => ?_)
      clear hK K
      refine zN ?_
      refine zP 7 (some 29) q3_8 HT_ ?_
      refine done_ (done_of HT_.out (by kernel_rfl)) ?_
      try go_wp2
      go_ret
      exact ⟨ze, zw HB⟩
     rw [if_neg c6] at H
     have Bn : (((rd_T45 l0 Aa).f0).toList == Az.toList) = false := beq_eq_false_iff_ne.mpr c6
     have Bm : (((rd_T45 l0 Aa).f0).toList != Az.toList) = true := bne_iff_ne.mpr c6
     obtain rfl := Option.some.inj H
     try go_wp2
     replace HB := Aside0.mk (below_drew1 HB.out)
     have Ar : 0 ≤ (Aa : Int) := of_decide_eq_true za
     have Aq : Aa < (l0.length : Int) := of_decide_eq_true za
     obtain ⟨Ab, Be, Ae, Ad, Ac⟩ := at_T45 HR0.out Aa Ar Aq
     have Ai := Ac
     have Aj := Ad
     have Ak := Ae
     cases Be
     replace Ae := zU HB.out Ae
     replace Ad := zU HB.out Ad
     replace Ac := zU HB.out Ac
     replace Ar := eq_true Ar
     replace Aq := eq_true Aq
     refine start_ (n := 8) (S := fun w' => w'.cell? (Ab.add ((Aa).toNat * 3)) = some (.string ((rd_T45 l0 Aa).f0)) ∧ w'.cell? ⟨(Ab.add ((Aa).toNat * 3)).block, (Ab.add ((Aa).toNat * 3)).off + 1, none⟩ = some (.string ((rd_T45 l0 Aa).f1)) ∧ w'.cell? ⟨(Ab.add ((Aa).toNat * 3)).block, (Ab.add ((Aa).toNat * 3)).off + 2, none⟩ = some (.int .i64 ((rd_T45 l0 Aa).f2))) (ds := []) q3_0 (by kernel_rfl) rfl rfl ⟨(zU HB.out Ak), (zU HB.out Aj), (zU HB.out Ai)⟩ (fun hHeld => ?_); refine with_tabW laws_heldFileS.tab4 laws_heldFileS.bits4 (fun HT_ HW_ => ?_)
     generalize wr.drew = w22 at HB Ae Ad Ac hHeld ⊢
     refine zP 0 (some 12) q3_1 HT_ ?_
     refine zP 1 (some 13) q3_2 HT_ ?_
     refine zP 2 (some 14) q3_3 HT_ ?_
     refine zP 3 (some 15) q3_4 HT_ ?_
     refine zP 5 (some 17) q3_5 HT_ ?_
     refine zT 4 (some 16) q3_6 HT_ HW_ hHeld ?_
     refine one_ (i := 6) (N := some 18) q3_7 rfl rfl (one_of HT_.out (by kernel_rfl)) (by decide) (fun K hK => ?_)
     refine zH Try.func69 #[.int .i64 Al] ?_
     with_reducible refine (laws_markText.calls k1 Al Az _ A5.out).mono ?_
     rintro e w23 ⟨rfl, hb⟩
     refine ⟨_, rfl, ?_⟩
     replace HB := zs HB hb
     (try clear hb)
     (try clear hb2)
     (try clear hk)
     (try clear hi)
     refine hK.out _ _ ⟨(zU HB.out Ak), (zU HB.out Aj), (zU HB.out Ai)⟩ (fun hHeld => ?_)
     clear hK K
     refine zN ?_
     refine zP 7 (some 19) q3_8 HT_ ?_
     refine done_ (done_of HT_.out (by kernel_rfl)) ?_
     try go_wp2
     go_ret
     exact ⟨ze, zw HB⟩
    rw [if_neg c4] at H
    exact absurd H (by simp)
   rw [if_neg c3] at H
   have Bo := decide_eq_false c3
   clear c3
   obtain rfl := Option.some.inj H
   go_wp2
   go_ret
   exact ⟨ze, zw HB⟩

/-! ### laws_heldDisk: function 33 -/
def laws_heldDisk.f (k : Nat) (l0_0 : List (S45)) (a1 : Int) : Option (Int) := (laws_heldFileS.f k l0_0 a1).bind fun t156 => (if t156 < 0 then (some (-1)) else (some t156))
theorem laws_heldDisk.mono : ∀ a0 a1 k, LeO (laws_heldDisk.f k a0 a1) (laws_heldDisk.f (k + 1) a0 a1) := by
 intro a0 a1 k
 unfold laws_heldDisk.f
 repeat' first
   | (with_reducible exact laws_heldFileS.mono _ _ _)
   | (with_reducible exact LeO.refl _)
   | (with_reducible exact LeO.none _)
   | (with_reducible refine LeO.ite ?_ ?_)
   | (with_reducible refine LeO.bind ?_ (fun _ => ?_))
   | exact laws_heldFileS.mono _ _ _
   | exact LeO.none _
   | refine LeO.ite ?_ ?_
   | refine LeO.bind ?_ (fun _ => ?_)
set_option maxHeartbeats 8000000 in
set_option maxRecDepth 100000 in
theorem laws_heldDisk.calls (k : Nat) (A0_0 : Option Addr) (c0_0 : Nat) (l0_0 : List (S45)) (a1 : Int) (r : Int) (w : World) (hr0_0 : Kd.C k45 w A0_0 l0_0.length l0_0) (hc0_0 : l0_0.length ≤ c0_0) (h : laws_heldDisk.f k l0_0 a1 = some r) :
  Calls Try.prog 33 #[.agg #[.slice A0_0 l0_0.length c0_0], .int .i64 a1] w fun e w' => e = .returned (.int .i64 r) ∧ Below w.heap.size w w' := by
 have hu29 := Try.underlying29
 have HR0_0 := Aside0.mk hr0_0
 have Ac := Aside0.mk hc0_0
 clear hr0_0 hc0_0
 have HB := Aside0.mk (Below.refl w.heap.size w)
 have H : ((laws_heldFileS.f k l0_0 a1).bind fun Ab => (if Ab < 0 then (some (-1)) else (some Ab))) = some r := h
 clear h
 replace H := Option.bind_eq_some_iff.mp H
 obtain ⟨Ab, Ah, H⟩ := H
 have A3 := Aside0.mk Ah
 clear Ah
 by_cases c4 : Ab < 0
 ·rw [if_pos c4] at H
  have Ag := decide_eq_true c4
  clear c4
  obtain rfl := Option.some.inj H
  go_enter Try.func33, Try.ntmps33
  go_wp2_with (first | ((with_reducible refine gate_dst (N := 2) rfl ?_); refine zx (N := 2) (cs := #[.slice A0_0 l0_0.length c0_0]) (t := 29) ?_; intro Ad hg w5 hbox hb; have Aa := Aside0.mk (hbox); have Ae := zg HB hg; have Af := zg HB hg; replace HB := zs HB hb; clear hb hbox hg; obtain ⟨_, _⟩ := zc1 Aa) | ((with_reducible refine gate_callee (f := 63) rfl ?_); refine zG (some 8) Try.func63 #[.slice A0_0 l0_0.length c0_0, .int .i64 a1] ?_; (with_reducible refine (laws_heldFileS.calls k _ _ l0_0 a1 Ab _ ?side1 ?side2 A3.out).mono ?_); (case side1 => exact zI (Kd.C_below HR0_0.out HB.out)); (case side2 => exact Ac.out); rintro e w7 ⟨rfl, hb⟩; refine ⟨_, rfl, ?_⟩; replace Aa := zb Aa hb; replace HB := zs HB hb; clear hb))
  go_ret
  exact ⟨ze, zw HB⟩
 rw [if_neg c4] at H
 have Ag := decide_eq_false c4
 clear c4
 obtain rfl := Option.some.inj H
 go_enter Try.func33, Try.ntmps33
 go_wp2_with (first | ((with_reducible refine gate_dst (N := 2) rfl ?_); refine zx (N := 2) (cs := #[.slice A0_0 l0_0.length c0_0]) (t := 29) ?_; intro Ad hg w8 hbox hb; have Aa := Aside0.mk (hbox); have Ae := zg HB hg; have Af := zg HB hg; replace HB := zs HB hb; clear hb hbox hg; obtain ⟨_, _⟩ := zc1 Aa) | ((with_reducible refine gate_callee (f := 63) rfl ?_); refine zG (some 8) Try.func63 #[.slice A0_0 l0_0.length c0_0, .int .i64 a1] ?_; (with_reducible refine (laws_heldFileS.calls k _ _ l0_0 a1 Ab _ ?side1 ?side2 A3.out).mono ?_); (case side1 => exact zI (Kd.C_below HR0_0.out HB.out)); (case side2 => exact Ac.out); rintro e w10 ⟨rfl, hb⟩; refine ⟨_, rfl, ?_⟩; replace Aa := zb Aa hb; replace HB := zs HB hb; clear hb))
 go_ret
 exact ⟨ze, zw HB⟩

end Go.Proofs.Ytdiecogmaiglaaa.PFnExactCutActs
