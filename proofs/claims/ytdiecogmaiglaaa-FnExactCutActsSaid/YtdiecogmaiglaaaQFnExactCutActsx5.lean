import Derived.Test.YtdiecogmaiglaaaQFnExactCutActsx0
import Derived.Test.YtdiecogmaiglaaaQFnExactCutActsx2
namespace Go.Proofs.Ytdiecogmaiglaaa.PFnExactCutActs
open Go.RowKit Go.Proofs.YtdiecogmaiglaaaW.PrintWords Go.Proofs.YtdiecogmaiglaaaW.PrintLast Go.Proofs.YtdiecogmaiglaaaW.PrintMore
attribute [local go_sem] max2_int min2_int max_two min_two max_three min_three max_four min_four   -- for this text's walks alone
set_option linter.unusedVariables false
set_option linter.unusedSimpArgs false

/-! ### laws_markActS: function 43 -/
def laws_markActS.l0 : Nat → List (S55) → Int → Int → Option (Int × (List (S55)))
 | 0, _, _, _ => none
 | k + 1, x0, x1, x5 => if x5 < (x0.length : Int) then (if 0 ≤ x5 then ((some (x0.set (x5 : Int).toNat (⟨x1, (rd_T55 x0 x5).f1, (rd_T55 x0 x5).f2, (rd_T55 x0 x5).f3⟩ : S55) : List (S55))).bind fun y177 => ((laws_markText.f k (wrap64 (x1 + 1))).bind fun t178 => ((some (y177.set (x5 : Int).toNat (⟨(rd_T55 y177 x5).f0, t178, (rd_T55 y177 x5).f2, (rd_T55 y177 x5).f3⟩ : S55) : List (S55))).bind fun y179 => ((laws_markText.f k (wrap64 ((wrap64 (x1 + 1)) + 1))).bind fun t180 => ((some (y179.set (x5 : Int).toNat (⟨(rd_T55 y179 x5).f0, (rd_T55 y179 x5).f1, t180, (rd_T55 y179 x5).f3⟩ : S55) : List (S55))).bind fun y181 => ((laws_markText.f k (wrap64 ((wrap64 ((wrap64 (x1 + 1)) + 1)) + 1))).bind fun t182 => (laws_markActS.l0 k (y181.set (x5 : Int).toNat (⟨(rd_T55 y181 x5).f0, (rd_T55 y181 x5).f1, (rd_T55 y181 x5).f2, t182⟩ : S55)) (wrap64 ((wrap64 ((wrap64 ((wrap64 (x1 + 1)) + 1)) + 1)) + 1)) (wrap64 (x5 + 1))))))))) else (none)) else (some (x1, x0))
def laws_markActS.f (k : Nat) (l0 : List (S55)) (a1 : Int) : Option (Int × (List (S55))) := laws_markActS.l0 k l0 a1 0
theorem laws_markActS.mono_l : ∀ k, (∀ y0 y1 y2, LeO (laws_markActS.l0 k y0 y1 y2) (laws_markActS.l0 (k + 1) y0 y1 y2))
 | 0 => fun _ _ _ r h => by simp [laws_markActS.l0] at h
 | k + 1 => by
  have ih0 := laws_markActS.mono_l k
  intro y0 y1 y2
  unfold laws_markActS.l0
  repeat' first
  | (with_reducible exact ih0 _ _ _)
  | (with_reducible exact laws_markText.mono _ _)
  | (with_reducible exact LeO.refl _)
  | (with_reducible exact LeO.none _)
  | (with_reducible refine LeO.ite ?_ ?_)
  | (with_reducible refine LeO.bind ?_ (fun _ => ?_))
  | exact ih0 _ _ _
  | exact laws_markText.mono _ _
  | exact LeO.none _
  | refine LeO.ite ?_ ?_
  | refine LeO.bind ?_ (fun _ => ?_)
theorem laws_markActS.mono : ∀ a0 a1 k, LeO (laws_markActS.f k a0 a1) (laws_markActS.f (k + 1) a0 a1) := by
 intro a0 a1 k
 have ih0 := laws_markActS.mono_l k
 unfold laws_markActS.f
 repeat' first
   | (with_reducible exact ih0 _ _ _)
   | (with_reducible exact laws_markText.mono _ _)
   | (with_reducible exact LeO.refl _)
   | (with_reducible exact LeO.none _)
   | (with_reducible refine LeO.ite ?_ ?_)
   | (with_reducible refine LeO.bind ?_ (fun _ => ?_))
   | exact ih0 _ _ _
   | exact laws_markText.mono _ _
   | exact LeO.none _
   | refine LeO.ite ?_ ?_
   | refine LeO.bind ?_ (fun _ => ?_)
set_option maxHeartbeats 8000000 in
set_option maxRecDepth 100000 in
theorem laws_markActS.calls (k : Nat) (P0_ : Nat → Prop) (u9000_ : Value) (l0 : List (S55)) (a1 : Int) (r1 : Int) (r2 : List (S55)) (w0 w : World) (hB : Below w0.heap.size w0 w) (ho0 : Kd.R k55 55 w w0.heap.size P0_ u9000_ l0) (h : laws_markActS.f k l0 a1 = some (r1, r2)) :
  Calls Try.prog 43 #[u9000_, .int .i64 a1] w fun e w' => e = .returned (.int .i64 r1) ∧ Kd.R k55 55 w' w0.heap.size (fun k_ => (P0_ k_ ∨ w.heap.size ≤ k_)) u9000_ r2 ∧ Below w0.heap.size w0 w' ∧ Kept w w' (fun k_ => P0_ k_) := by
 have Ct := Aside0.mk (show Kd.R k55 55 w w0.heap.size (fun k_ => (P0_ k_ ∨ w.heap.size ≤ k_)) u9000_ l0 from Kd.R_mono ho0 (fun k_ hk => (.inl hk)))
 have HK := Aside0.mk (Kept.refl w (fun k_ => P0_ k_))
 have HW0 := Aside0.mk hB.size
 have HB := Aside0.mk hB
 clear hB
 have H : (laws_markActS.l0 k l0 a1 0) = some (r1, r2) := h
 clear h
 have H' := Aside0.mk H
 clear H
 go_enter Try.func43, Try.ntmps43
 go_wp2
 go_loopg [1, 5] k (fun kq v1 v5 w' => ∃ (Ab : List (S55)) (Af : Int) (Aa : Int), v1 = .int .i64 Af ∧ v5 = .int .i64 Aa ∧ Aside0 (laws_markActS.l0 kq Ab Af Aa = some (r1, r2)) ∧ Aside0 (kq ≤ k) ∧ Aside0 (Kd.R k55 55 w' w0.heap.size (fun k_ => (P0_ k_ ∨ w.heap.size ≤ k_)) u9000_ Ab) ∧ Aside0 (Kept w w' (fun k_ => P0_ k_)) ∧ Aside0 (Below w0.heap.size w0 w'))
 case atStart => exact ⟨(l0), (a1), (0), zf, zf, H', ⟨Nat.le_refl _⟩, ⟨zo Ct.out⟩, ⟨by repeat (first | (with_reducible first | exact HK.out | apply Kept.alloc | apply Kept.drewN | apply Kept.drew) | exact HK.out)⟩, ⟨zw HB⟩⟩
 case round =>
  clear H'
  try clear p2
  obtain ⟨Ab, Af, Aa, rfl, rfl, HA, Cq, Ac, HK, HB⟩ := hrel
  cases gk with
  | zero => exact absurd HA.out (by simp [laws_markActS.l0])
  | succ k1 =>
   have H := HA.out
   clear HA
   simp only [laws_markActS.l0] at H
   by_cases c3 : Aa < (Ab.length : Int)
   ·rw [if_pos c3] at H
    have Ck := decide_eq_true c3
    clear c3
    by_cases c4 : 0 ≤ Aa
    ·rw [if_pos c4] at H
     have c4b0 := decide_eq_true c4
     clear c4
     obtain ⟨Ah, Ap⟩ : ∃ y_ : List (S55), y_ = (Ab.set (Aa : Int).toNat (⟨Af, (rd_T55 Ab Aa).f1, (rd_T55 Ab Aa).f2, (rd_T55 Ab Aa).f3⟩ : S55)) := ⟨_, rfl⟩
     replace H : ((laws_markText.f k1 (wrap64 (Af + 1))).bind fun Ak => ((some (Ah.set (Aa : Int).toNat (⟨(rd_T55 Ah Aa).f0, Ak, (rd_T55 Ah Aa).f2, (rd_T55 Ah Aa).f3⟩ : S55) : List (S55))).bind fun Ae => ((laws_markText.f k1 (wrap64 ((wrap64 (Af + 1)) + 1))).bind fun Aj => ((some (Ae.set (Aa : Int).toNat (⟨(rd_T55 Ae Aa).f0, (rd_T55 Ae Aa).f1, Aj, (rd_T55 Ae Aa).f3⟩ : S55) : List (S55))).bind fun Ad => ((laws_markText.f k1 (wrap64 ((wrap64 ((wrap64 (Af + 1)) + 1)) + 1))).bind fun Ai => (laws_markActS.l0 k1 (Ad.set (Aa : Int).toNat (⟨(rd_T55 Ad Aa).f0, (rd_T55 Ad Aa).f1, (rd_T55 Ad Aa).f2, Ai⟩ : S55)) (wrap64 ((wrap64 ((wrap64 ((wrap64 (Af + 1)) + 1)) + 1)) + 1)) (wrap64 (Aa + 1)))))))) = some (r1, r2) := by first | (rw [Ap]; with_reducible exact H) | (have H2_ := (Option.bind_some _ _).symm.trans H; rw [Ap]; with_reducible exact H2_) | (have H2_ := (Option.bind_some _ _).symm.trans H; with_reducible exact H2_) | with_reducible exact H | (rw [Ap]; exact H) | exact H
     have Ny177 := Aside0.mk Ap
     clear Ap
     replace H := Option.bind_eq_some_iff.mp H
     obtain ⟨Ak, Cs, H⟩ := H
     have A6 := Aside0.mk Cs
     clear Cs
     obtain ⟨Ae, Ao⟩ : ∃ y_ : List (S55), y_ = (Ah.set (Aa : Int).toNat (⟨(rd_T55 Ah Aa).f0, Ak, (rd_T55 Ah Aa).f2, (rd_T55 Ah Aa).f3⟩ : S55)) := ⟨_, rfl⟩
     replace H : ((laws_markText.f k1 (wrap64 ((wrap64 (Af + 1)) + 1))).bind fun Aj => ((some (Ae.set (Aa : Int).toNat (⟨(rd_T55 Ae Aa).f0, (rd_T55 Ae Aa).f1, Aj, (rd_T55 Ae Aa).f3⟩ : S55) : List (S55))).bind fun Ad => ((laws_markText.f k1 (wrap64 ((wrap64 ((wrap64 (Af + 1)) + 1)) + 1))).bind fun Ai => (laws_markActS.l0 k1 (Ad.set (Aa : Int).toNat (⟨(rd_T55 Ad Aa).f0, (rd_T55 Ad Aa).f1, (rd_T55 Ad Aa).f2, Ai⟩ : S55)) (wrap64 ((wrap64 ((wrap64 ((wrap64 (Af + 1)) + 1)) + 1)) + 1)) (wrap64 (Aa + 1)))))) = some (r1, r2) := by first | (rw [Ao]; with_reducible exact H) | (have H2_ := (Option.bind_some _ _).symm.trans H; rw [Ao]; with_reducible exact H2_) | (have H2_ := (Option.bind_some _ _).symm.trans H; with_reducible exact H2_) | with_reducible exact H | (rw [Ao]; exact H) | exact H
     have Ny179 := Aside0.mk Ao
     clear Ao
     replace H := Option.bind_eq_some_iff.mp H
     obtain ⟨Aj, Cr, H⟩ := H
     have A8 := Aside0.mk Cr
     clear Cr
     obtain ⟨Ad, Am⟩ : ∃ y_ : List (S55), y_ = (Ae.set (Aa : Int).toNat (⟨(rd_T55 Ae Aa).f0, (rd_T55 Ae Aa).f1, Aj, (rd_T55 Ae Aa).f3⟩ : S55)) := ⟨_, rfl⟩
     replace H : ((laws_markText.f k1 (wrap64 ((wrap64 ((wrap64 (Af + 1)) + 1)) + 1))).bind fun Ai => (laws_markActS.l0 k1 (Ad.set (Aa : Int).toNat (⟨(rd_T55 Ad Aa).f0, (rd_T55 Ad Aa).f1, (rd_T55 Ad Aa).f2, Ai⟩ : S55)) (wrap64 ((wrap64 ((wrap64 ((wrap64 (Af + 1)) + 1)) + 1)) + 1)) (wrap64 (Aa + 1)))) = some (r1, r2) := by first | (rw [Am]; with_reducible exact H) | (have H2_ := (Option.bind_some _ _).symm.trans H; rw [Am]; with_reducible exact H2_) | (have H2_ := (Option.bind_some _ _).symm.trans H; with_reducible exact H2_) | with_reducible exact H | (rw [Am]; exact H) | exact H
     have Ny181 := Aside0.mk Am
     clear Am
     replace H := Option.bind_eq_some_iff.mp H
     obtain ⟨Ai, B2, H⟩ := H
     have Cu := Aside0.mk B2
     clear B2
     obtain ⟨Bq, Al⟩ : ∃ y_ : List (S55), y_ = (Ad.set (Aa : Int).toNat (⟨(rd_T55 Ad Aa).f0, (rd_T55 Ad Aa).f1, (rd_T55 Ad Aa).f2, Ai⟩ : S55)) := ⟨_, rfl⟩
     replace H : (laws_markActS.l0 k1 Bq (wrap64 ((wrap64 ((wrap64 ((wrap64 (Af + 1)) + 1)) + 1)) + 1)) (wrap64 (Aa + 1))) = some (r1, r2) := by first | (rw [Al]; with_reducible exact H) | (have H2_ := (Option.bind_some _ _).symm.trans H; rw [Al]; with_reducible exact H2_) | (have H2_ := (Option.bind_some _ _).symm.trans H; with_reducible exact H2_) | with_reducible exact H | (rw [Al]; exact H) | exact H
     have Ny183 := Aside0.mk Al
     clear Al
     have H' := Aside0.mk H
     clear H
     obtain ⟨Ao12, As, Cj⟩ := Kd.R_slice Ac.out
     subst Cj
     have p5 : 0 ≤ (Aa : Int) := of_decide_eq_true za
     have q5 : (Aa : Int) < ((Ab.length : Int) : Int) := of_decide_eq_true za
     obtain ⟨Ag, co5, Cp, Co, gl5, cl5, HG5⟩ := Kd.R_form Ac.out (by omega)
     (first | cases Cp | (injection Cp with ea_ en_ ec_; (first | subst ea_ | (injection ea_ with ea_; subst ea_)); subst ec_; clear en_))
     have GB5 := Aside0.mk Co
     have GG5 := Aside0.mk HG5
     clear Co gl5 HG5
     have HMgo5 := Aside0.mk (show (P0_ Ag ∨ w.heap.size ≤ Ag) from (Ac.out.1 _ rfl))
     obtain ⟨ce5, Ch, Cn, Bd, Ba⟩ := Kd.R_elem Ac.out z55 (Aa : Int) p5 q5
     obtain rfl := k55_openM Cn
     have hx5_0 : wr.cell? ⟨Ag, (Aa : Int).toNat * 4, none⟩ = some (.int .i64 ((rd_T55 Ab Aa).f0)) := Bd 0 _ rfl
     have hx5_1 : wr.cell? ⟨Ag, (Aa : Int).toNat * 4 + 1, none⟩ = some (.string ((rd_T55 Ab Aa).f1)) := Bd 1 _ rfl
     have hx5_2 : wr.cell? ⟨Ag, (Aa : Int).toNat * 4 + 2, none⟩ = some (.string ((rd_T55 Ab Aa).f2)) := Bd 2 _ rfl
     have hx5_3 : wr.cell? ⟨Ag, (Aa : Int).toNat * 4 + 3, none⟩ = some (.string ((rd_T55 Ab Aa).f3)) := Bd 3 _ rfl
     have hf5_0 : wr.frozen? ⟨Ag, (Aa : Int).toNat * 4, none⟩ = false := Ba 0
     have hf5_1 : wr.frozen? ⟨Ag, (Aa : Int).toNat * 4 + 1, none⟩ = false := Ba 1
     have hf5_2 : wr.frozen? ⟨Ag, (Aa : Int).toNat * 4 + 2, none⟩ = false := Ba 2
     have hf5_3 : wr.frozen? ⟨Ag, (Aa : Int).toNat * 4 + 3, none⟩ = false := Ba 3
     clear Ch Bd Ba Cn
     replace p5 := eq_true p5
     replace q5 := eq_true q5
     have HX13 := Aside0.mk (show Kd.R k55 55 wr w0.heap.size (fun k_ => (P0_ k_ ∨ w.heap.size ≤ k_)) (.slice (some ⟨Ag, 0, none⟩) Ab.length As) Ab from (zo Ac.out))
     obtain ⟨ce13, Bp, B0, Bh, Bl⟩ := Kd.R_elem HX13.out z55 (Aa : Int) (of_decide_eq_true za) (by have h_ : (Aa : Int) < ((Ab.length : Int) : Int) := of_decide_eq_true za; first | exact h_ | (have e_ := (Kd.R_reads' Ac.out).1; omega) | simpa using h_)
     obtain rfl := k55_openM B0
     have HP13 := Kd.R_seg HX13.out (Aa : Int) (of_decide_eq_true za) (by have h_ : (Aa : Int) < ((Ab.length : Int) : Int) := of_decide_eq_true za; first | exact h_ | (have e_ := (Kd.R_reads' Ac.out).1; omega) | simpa using h_) (seg := [.int .i64 Af]) (j := 0) Bp Bh (show 1 ≤ 4 from by decide) (x' := (⟨Af, (rd_T55 Ab Aa).f1, (rd_T55 Ab Aa).f2, (rd_T55 Ab Aa).f3⟩ : S55)) (k55_mkM _ _ _ (⟨Af, (rd_T55 Ab Aa).f1, (rd_T55 Ab Aa).f2, (rd_T55 Ab Aa).f3⟩ : S55) ) (fun _ hk => hk)
     have Bu := Bh 0 _ rfl
     (try simp only [show (k55).sz = 4 from rfl, Nat.mul_one, Nat.add_zero] at Bu)
     have hf13_0 := Bl 0
     (try simp only [show (k55).sz = 4 from rfl, Nat.mul_one, Nat.add_zero] at hf13_0)
     clear Bp Bh Bl B0
     go_wp2_with (first | ((with_reducible refine gate_store (t := 3) (p := 16) rfl ?_); refine store_event (t := 3) (p := 16) (v := ?vo_w14) (w1 := (wr.setCell ⟨Ag, (Aa : Int).toNat * 4, none⟩ (.int .i64 Af))) ?hg ?ho ?hn ?hr ?_; (case ho => rfl); (case hg => rfl); (case hn => rfl); (case hr => first | (go_simp; done) | (go_simp; rfl)); intro Cc hw; have hg : wr.grownBy Cc (some Ag) := (by rw [hw]; exact HP13.2); have hp_ : Kd.R k55 55 Cc w0.heap.size (fun k_ => (P0_ k_ ∨ w.heap.size ≤ k_)) (.slice (some ⟨Ag, 0, none⟩) Ab.length As) Ah := (by rw [hw, Ny177.out]; exact HP13.1); clear HP13; replace HB := Aside0.mk ((by rw [hw]; exact below_set (HB.out) GB5.out : Below w0.heap.size w0 Cc)); replace HK := Aside0.mk (Kept.of_grown (S := (fun k_ => P0_ k_)) hg (by repeat (first | (with_reducible first | exact HK.out | apply Kept.alloc | apply Kept.drewN | apply Kept.drew) | exact HK.out)) (fun k_ e_ => (Ac.out.1 k_ e_))); replace Ac := Aside0.mk (hp_); clear hg hw hp_) | ((with_reducible refine gate_callee (f := 69) rfl ?_); refine zG (some 22) Try.func69 #[.int .i64 (wrap64 (Af + 1))] ?_; (with_reducible refine (laws_markText.calls k1 (wrap64 (Af + 1)) Ak _ A6.out).mono ?_); rintro e Ax ⟨rfl, hb⟩; refine ⟨_, rfl, ?_⟩; replace Ac := zy Ac hb; replace HK := Aside0.mk (Kept.below (S := (fun k_ => P0_ k_)) (by repeat (first | (with_reducible first | exact HK.out | apply Kept.alloc | apply Kept.drewN | apply Kept.drew) | exact HK.out)) hb); replace HB := zs HB hb; clear hb; have p7 : 0 ≤ (Aa : Int) := of_decide_eq_true za; have q7 : (Aa : Int) < ((Ab.length : Int) : Int) := of_decide_eq_true za; obtain ⟨ce7, Cg, Cm, Bc, Az⟩ := Kd.R_elem Ac.out z55 (Aa : Int) p7 q7; obtain rfl := k55_openM Cm; have hx7_0 : Ax.cell? ⟨Ag, (Aa : Int).toNat * 4, none⟩ = some (.int .i64 ((rd_T55 Ah Aa).f0)) := Bc 0 _ rfl; have hx7_1 : Ax.cell? ⟨Ag, (Aa : Int).toNat * 4 + 1, none⟩ = some (.string ((rd_T55 Ah Aa).f1)) := Bc 1 _ rfl; have hx7_2 : Ax.cell? ⟨Ag, (Aa : Int).toNat * 4 + 2, none⟩ = some (.string ((rd_T55 Ah Aa).f2)) := Bc 2 _ rfl; have hx7_3 : Ax.cell? ⟨Ag, (Aa : Int).toNat * 4 + 3, none⟩ = some (.string ((rd_T55 Ah Aa).f3)) := Bc 3 _ rfl; have hf7_0 : Ax.frozen? ⟨Ag, (Aa : Int).toNat * 4, none⟩ = false := Az 0; have hf7_1 : Ax.frozen? ⟨Ag, (Aa : Int).toNat * 4 + 1, none⟩ = false := Az 1; have hf7_2 : Ax.frozen? ⟨Ag, (Aa : Int).toNat * 4 + 2, none⟩ = false := Az 2; have hf7_3 : Ax.frozen? ⟨Ag, (Aa : Int).toNat * 4 + 3, none⟩ = false := Az 3; clear Cg Bc Az Cm; replace p7 := eq_true p7; replace q7 := eq_true q7; have HX16 := Aside0.mk (show Kd.R k55 55 Ax w0.heap.size (fun k_ => (P0_ k_ ∨ w.heap.size ≤ k_)) (.slice (some ⟨Ag, 0, none⟩) Ab.length As) Ah from (zo Ac.out)); obtain ⟨ce16, Bo, Bz, Bg, Bk⟩ := Kd.R_elem HX16.out z55 (Aa : Int) (of_decide_eq_true za) (by have h_ : (Aa : Int) < ((Ab.length : Int) : Int) := of_decide_eq_true za; first | exact h_ | (have e_ := (Kd.R_reads' Ac.out).1; omega) | simpa using h_); obtain rfl := k55_openM Bz; have HP16 := Kd.R_seg HX16.out (Aa : Int) (of_decide_eq_true za) (by have h_ : (Aa : Int) < ((Ab.length : Int) : Int) := of_decide_eq_true za; first | exact h_ | (have e_ := (Kd.R_reads' Ac.out).1; omega) | simpa using h_) (seg := [.string Ak]) (j := 1) Bo Bg (show 2 ≤ 4 from by decide) (x' := (⟨(rd_T55 Ah Aa).f0, Ak, (rd_T55 Ah Aa).f2, (rd_T55 Ah Aa).f3⟩ : S55)) (k55_mkM _ _ _ (⟨(rd_T55 Ah Aa).f0, Ak, (rd_T55 Ah Aa).f2, (rd_T55 Ah Aa).f3⟩ : S55) ) (fun _ hk => hk); have Bt := Bg 1 _ rfl; (try simp only [show (k55).sz = 4 from rfl, Nat.mul_one, Nat.add_zero] at Bt); have hf16_1 := Bk 1; (try simp only [show (k55).sz = 4 from rfl, Nat.mul_one, Nat.add_zero] at hf16_1); clear Bo Bg Bk Bz) | ((with_reducible refine gate_store (t := 9) (p := 24) rfl ?_); refine store_event (t := 9) (p := 24) (v := ?vo_w17) (w1 := (Ax.setCell ⟨Ag, (Aa : Int).toNat * 4 + 1, none⟩ (.string Ak))) ?hg ?ho ?hn ?hr ?_; (case ho => rfl); (case hg => rfl); (case hn => rfl); (case hr => first | (go_simp; done) | (go_simp; rfl)); intro Cb hw; have hg : Ax.grownBy Cb (some Ag) := (by rw [hw]; exact HP16.2); have hp_ : Kd.R k55 55 Cb w0.heap.size (fun k_ => (P0_ k_ ∨ w.heap.size ≤ k_)) (.slice (some ⟨Ag, 0, none⟩) Ab.length As) Ae := (by rw [hw, Ny179.out]; exact HP16.1); clear HP16; replace HB := Aside0.mk ((by rw [hw]; exact below_set (HB.out) GB5.out : Below w0.heap.size w0 Cb)); replace HK := Aside0.mk (Kept.of_grown (S := (fun k_ => P0_ k_)) hg (by repeat (first | (with_reducible first | exact HK.out | apply Kept.alloc | apply Kept.drewN | apply Kept.drew) | exact HK.out)) (fun k_ e_ => (Ac.out.1 k_ e_))); replace Ac := Aside0.mk (hp_); clear hg hw hp_) | ((with_reducible refine gate_callee (f := 69) rfl ?_); refine zG (some 30) Try.func69 #[.int .i64 (wrap64 ((wrap64 (Af + 1)) + 1))] ?_; (with_reducible refine (laws_markText.calls k1 (wrap64 ((wrap64 (Af + 1)) + 1)) Aj _ A8.out).mono ?_); rintro e Aw ⟨rfl, hb⟩; refine ⟨_, rfl, ?_⟩; replace Ac := zy Ac hb; replace HK := Aside0.mk (Kept.below (S := (fun k_ => P0_ k_)) (by repeat (first | (with_reducible first | exact HK.out | apply Kept.alloc | apply Kept.drewN | apply Kept.drew) | exact HK.out)) hb); replace HB := zs HB hb; clear hb; have p9 : 0 ≤ (Aa : Int) := of_decide_eq_true za; have q9 : (Aa : Int) < ((Ab.length : Int) : Int) := of_decide_eq_true za; obtain ⟨ce9, Cf, Cl, Bb, Ay⟩ := Kd.R_elem Ac.out z55 (Aa : Int) p9 q9; obtain rfl := k55_openM Cl; have hx9_0 : Aw.cell? ⟨Ag, (Aa : Int).toNat * 4, none⟩ = some (.int .i64 ((rd_T55 Ae Aa).f0)) := Bb 0 _ rfl; have hx9_1 : Aw.cell? ⟨Ag, (Aa : Int).toNat * 4 + 1, none⟩ = some (.string ((rd_T55 Ae Aa).f1)) := Bb 1 _ rfl; have hx9_2 : Aw.cell? ⟨Ag, (Aa : Int).toNat * 4 + 2, none⟩ = some (.string ((rd_T55 Ae Aa).f2)) := Bb 2 _ rfl; have hx9_3 : Aw.cell? ⟨Ag, (Aa : Int).toNat * 4 + 3, none⟩ = some (.string ((rd_T55 Ae Aa).f3)) := Bb 3 _ rfl; have hf9_0 : Aw.frozen? ⟨Ag, (Aa : Int).toNat * 4, none⟩ = false := Ay 0; have hf9_1 : Aw.frozen? ⟨Ag, (Aa : Int).toNat * 4 + 1, none⟩ = false := Ay 1; have hf9_2 : Aw.frozen? ⟨Ag, (Aa : Int).toNat * 4 + 2, none⟩ = false := Ay 2; have hf9_3 : Aw.frozen? ⟨Ag, (Aa : Int).toNat * 4 + 3, none⟩ = false := Ay 3; clear Cf Bb Ay Cl; replace p9 := eq_true p9; replace q9 := eq_true q9; have HX19 := Aside0.mk (show Kd.R k55 55 Aw w0.heap.size (fun k_ => (P0_ k_ ∨ w.heap.size ≤ k_)) (.slice (some ⟨Ag, 0, none⟩) Ab.length As) Ae from (zo Ac.out)); obtain ⟨ce19, Bn, Bx, Bf, Bj⟩ := Kd.R_elem HX19.out z55 (Aa : Int) (of_decide_eq_true za) (by have h_ : (Aa : Int) < ((Ab.length : Int) : Int) := of_decide_eq_true za; first | exact h_ | (have e_ := (Kd.R_reads' Ac.out).1; omega) | simpa using h_); obtain rfl := k55_openM Bx; have HP19 := Kd.R_seg HX19.out (Aa : Int) (of_decide_eq_true za) (by have h_ : (Aa : Int) < ((Ab.length : Int) : Int) := of_decide_eq_true za; first | exact h_ | (have e_ := (Kd.R_reads' Ac.out).1; omega) | simpa using h_) (seg := [.string Aj]) (j := 2) Bn Bf (show 3 ≤ 4 from by decide) (x' := (⟨(rd_T55 Ae Aa).f0, (rd_T55 Ae Aa).f1, Aj, (rd_T55 Ae Aa).f3⟩ : S55)) (k55_mkM _ _ _ (⟨(rd_T55 Ae Aa).f0, (rd_T55 Ae Aa).f1, Aj, (rd_T55 Ae Aa).f3⟩ : S55) ) (fun _ hk => hk); have Bs := Bf 2 _ rfl; (try simp only [show (k55).sz = 4 from rfl, Nat.mul_one, Nat.add_zero] at Bs); have hf19_2 := Bj 2; (try simp only [show (k55).sz = 4 from rfl, Nat.mul_one, Nat.add_zero] at hf19_2); clear Bn Bf Bj Bx) | ((with_reducible refine gate_store (t := 9) (p := 32) rfl ?_); refine store_event (t := 9) (p := 32) (v := ?vo_w20) (w1 := (Aw.setCell ⟨Ag, (Aa : Int).toNat * 4 + 2, none⟩ (.string Aj))) ?hg ?ho ?hn ?hr ?_; (case ho => rfl); (case hg => rfl); (case hn => rfl); (case hr => first | (go_simp; done) | (go_simp; rfl)); intro Ca hw; have hg : Aw.grownBy Ca (some Ag) := (by rw [hw]; exact HP19.2); have hp_ : Kd.R k55 55 Ca w0.heap.size (fun k_ => (P0_ k_ ∨ w.heap.size ≤ k_)) (.slice (some ⟨Ag, 0, none⟩) Ab.length As) Ad := (by rw [hw, Ny181.out]; exact HP19.1); clear HP19; replace HB := Aside0.mk ((by rw [hw]; exact below_set (HB.out) GB5.out : Below w0.heap.size w0 Ca)); replace HK := Aside0.mk (Kept.of_grown (S := (fun k_ => P0_ k_)) hg (by repeat (first | (with_reducible first | exact HK.out | apply Kept.alloc | apply Kept.drewN | apply Kept.drew) | exact HK.out)) (fun k_ e_ => (Ac.out.1 k_ e_))); replace Ac := Aside0.mk (hp_); clear hg hw hp_) | ((with_reducible refine gate_callee (f := 69) rfl ?_); refine zG (some 38) Try.func69 #[.int .i64 (wrap64 ((wrap64 ((wrap64 (Af + 1)) + 1)) + 1))] ?_; (with_reducible refine (laws_markText.calls k1 (wrap64 ((wrap64 ((wrap64 (Af + 1)) + 1)) + 1)) Ai _ Cu.out).mono ?_); rintro e Au ⟨rfl, hb⟩; refine ⟨_, rfl, ?_⟩; replace Ac := zy Ac hb; replace HK := Aside0.mk (Kept.below (S := (fun k_ => P0_ k_)) (by repeat (first | (with_reducible first | exact HK.out | apply Kept.alloc | apply Kept.drewN | apply Kept.drew) | exact HK.out)) hb); replace HB := zs HB hb; clear hb; have Ce : 0 ≤ (Aa : Int) := of_decide_eq_true za; have Cd : (Aa : Int) < ((Ab.length : Int) : Int) := of_decide_eq_true za; obtain ⟨ce11, Bv, B1, Ar, Aq⟩ := Kd.R_elem Ac.out z55 (Aa : Int) Ce Cd; obtain rfl := k55_openM B1; have hx11_0 : Au.cell? ⟨Ag, (Aa : Int).toNat * 4, none⟩ = some (.int .i64 ((rd_T55 Ad Aa).f0)) := Ar 0 _ rfl; have hx11_1 : Au.cell? ⟨Ag, (Aa : Int).toNat * 4 + 1, none⟩ = some (.string ((rd_T55 Ad Aa).f1)) := Ar 1 _ rfl; have hx11_2 : Au.cell? ⟨Ag, (Aa : Int).toNat * 4 + 2, none⟩ = some (.string ((rd_T55 Ad Aa).f2)) := Ar 2 _ rfl; have hx11_3 : Au.cell? ⟨Ag, (Aa : Int).toNat * 4 + 3, none⟩ = some (.string ((rd_T55 Ad Aa).f3)) := Ar 3 _ rfl; have hf11_0 : Au.frozen? ⟨Ag, (Aa : Int).toNat * 4, none⟩ = false := Aq 0; have hf11_1 : Au.frozen? ⟨Ag, (Aa : Int).toNat * 4 + 1, none⟩ = false := Aq 1; have hf11_2 : Au.frozen? ⟨Ag, (Aa : Int).toNat * 4 + 2, none⟩ = false := Aq 2; have hf11_3 : Au.frozen? ⟨Ag, (Aa : Int).toNat * 4 + 3, none⟩ = false := Aq 3; clear Bv Ar Aq B1; replace Ce := eq_true Ce; replace Cd := eq_true Cd; have HX22 := Aside0.mk (show Kd.R k55 55 Au w0.heap.size (fun k_ => (P0_ k_ ∨ w.heap.size ≤ k_)) (.slice (some ⟨Ag, 0, none⟩) Ab.length As) Ad from (zo Ac.out)); obtain ⟨ce22, Bm, Bw, Be, Bi⟩ := Kd.R_elem HX22.out z55 (Aa : Int) (of_decide_eq_true za) (by have h_ : (Aa : Int) < ((Ab.length : Int) : Int) := of_decide_eq_true za; first | exact h_ | (have e_ := (Kd.R_reads' Ac.out).1; omega) | simpa using h_); obtain rfl := k55_openM Bw; have HP22 := Kd.R_seg HX22.out (Aa : Int) (of_decide_eq_true za) (by have h_ : (Aa : Int) < ((Ab.length : Int) : Int) := of_decide_eq_true za; first | exact h_ | (have e_ := (Kd.R_reads' Ac.out).1; omega) | simpa using h_) (seg := [.string Ai]) (j := 3) Bm Be (show 4 ≤ 4 from by decide) (x' := (⟨(rd_T55 Ad Aa).f0, (rd_T55 Ad Aa).f1, (rd_T55 Ad Aa).f2, Ai⟩ : S55)) (k55_mkM _ _ _ (⟨(rd_T55 Ad Aa).f0, (rd_T55 Ad Aa).f1, (rd_T55 Ad Aa).f2, Ai⟩ : S55) ) (fun _ hk => hk); have Br := Be 3 _ rfl; (try simp only [show (k55).sz = 4 from rfl, Nat.mul_one, Nat.add_zero] at Br); have hf22_3 := Bi 3; (try simp only [show (k55).sz = 4 from rfl, Nat.mul_one, Nat.add_zero] at hf22_3); clear Bm Be Bi Bw) | ((with_reducible refine gate_store (t := 9) (p := 40) rfl ?_); refine store_event (t := 9) (p := 40) (v := ?vo_w23) (w1 := (Au.setCell ⟨Ag, (Aa : Int).toNat * 4 + 3, none⟩ (.string Ai))) ?hg ?ho ?hn ?hr ?_; (case ho => rfl); (case hg => rfl); (case hn => rfl); (case hr => first | (go_simp; done) | (go_simp; rfl)); intro B8 hw; have hg : Au.grownBy B8 (some Ag) := (by rw [hw]; exact HP22.2); have hp_ : Kd.R k55 55 B8 w0.heap.size (fun k_ => (P0_ k_ ∨ w.heap.size ≤ k_)) (.slice (some ⟨Ag, 0, none⟩) Ab.length As) Bq := (by rw [hw, Ny183.out]; exact HP22.1); clear HP22; replace HB := Aside0.mk ((by rw [hw]; exact below_set (HB.out) GB5.out : Below w0.heap.size w0 B8)); replace HK := Aside0.mk (Kept.of_grown (S := (fun k_ => P0_ k_)) hg (by repeat (first | (with_reducible first | exact HK.out | apply Kept.alloc | apply Kept.drewN | apply Kept.drew) | exact HK.out)) (fun k_ e_ => (Ac.out.1 k_ e_))); replace Ac := Aside0.mk (hp_); clear hg hw hp_))
     go_roundg k1
     case measure => have := Cq.out; omega
     case rel => exact ⟨(Bq), (wrap64 ((wrap64 ((wrap64 ((wrap64 (Af + 1)) + 1)) + 1)) + 1)), (wrap64 (Aa + 1)), zf, zf, H', ⟨by have := Cq.out; omega⟩, ⟨zo Ac.out⟩, ⟨by repeat (first | (with_reducible first | exact HK.out | apply Kept.alloc | apply Kept.drewN | apply Kept.drew) | exact HK.out)⟩, ⟨zw HB⟩⟩
    rw [if_neg c4] at H
    exact absurd H (by simp)
   rw [if_neg c3] at H
   have Ck := decide_eq_false c3
   clear c3
   simp only [Option.some.injEq, Prod.mk.injEq] at H
   obtain ⟨rfl, rfl⟩ := H
   obtain ⟨Ao24, co24, Ci⟩ := Kd.R_slice Ac.out
   subst Ci
   go_wp2
   go_ret
   exact ⟨ze, zo Ac.out, zw HB, by repeat (first | (with_reducible first | exact HK.out | apply Kept.alloc | apply Kept.drewN | apply Kept.drew) | exact HK.out)⟩

/-! ### impl_within: function 51 -/
def impl_within.f (a0 : Int) (a1 : Int) (a2 : Int) : Option (Bool) := if a0 ≥ a1 then (some (decide (a0 ≤ a2))) else (some false)
set_option maxHeartbeats 8000000 in
set_option maxRecDepth 100000 in
theorem impl_within.calls (a0 : Int) (a1 : Int) (a2 : Int) (r : Bool) (w : World) (h : impl_within.f a0 a1 a2 = some r) :
  Calls Try.prog 51 #[.int .i64 a0, .int .i64 a1, .int .i64 a2] w fun e w' => e = .returned (.bool r) ∧ Drawn0 w w' := by
 have H : (if a0 ≥ a1 then (some (decide (a0 ≤ a2))) else (some false)) = some r := h
 clear h
 by_cases c4 : a0 ≥ a1
 ·rw [if_pos c4] at H
  have Aa : decide (a1 ≤ a0) = true := decide_eq_true c4
  clear c4
  obtain rfl := Option.some.inj H
  go_enter Try.func51, Try.ntmps51
  go_wp2
  go_ret
  exact ⟨by first | rfl | (simp; done) | (simp [*]; done), by repeat (first | exact Drawn0.refl _ | apply Drawn0.step)⟩
 rw [if_neg c4] at H
 have Aa : decide (a1 ≤ a0) = false := decide_eq_false c4
 clear c4
 obtain rfl := Option.some.inj H
 go_enter Try.func51, Try.ntmps51
 go_wp2
 go_ret
 exact ⟨by first | rfl | (simp; done) | (simp [*]; done), by repeat (first | exact Drawn0.refl _ | apply Drawn0.step)⟩

end Go.Proofs.Ytdiecogmaiglaaa.PFnExactCutActs
