import Derived.Test.YtdiecogmaiglaaaQFnActsx0
import Derived.Test.YtdiecogmaiglaaaQFnActsx11
import Derived.Test.YtdiecogmaiglaaaQFnActsx13
import Derived.Test.YtdiecogmaiglaaaQFnActsx15
namespace Go.Proofs.Ytdiecogmaiglaaa.PFnActs
open Go.RowKit Go.Proofs.YtdiecogmaiglaaaW.PrintWords Go.Proofs.YtdiecogmaiglaaaW.PrintLast Go.Proofs.YtdiecogmaiglaaaW.PrintMore
attribute [local go_sem] max2_int min2_int max_two min_two max_three min_three max_four min_four   -- for this text's walks alone
set_option linter.unusedVariables false
set_option linter.unusedSimpArgs false

/-! ### spec_l03Act: function 86 -/
def spec_l03Act.j0 : Nat → List Int → Int → Int → Int → ByteArray → ByteArray → ByteArray → Option (Int × ByteArray × ByteArray × ByteArray × Int × Int)
 | 0, _, _, _, _, _, _, _ => none
 | k + 1, x1000, x1001, x1002, x372000, x372001, x372002, x372003 => (spec_l01Below.f x1000 x1001 x1002 40).bind fun bt381 => (if bt381.1 = 0 then ((spec_l01PickInt.f x1000 bt381.2.1 bt381.2.2 (([0, 5] : List Int))).bind fun bt387 => (some (bt387.1, x372001, x372002, x372003, bt387.2.1, bt387.2.2))) else (if bt381.1 = 1 then ((spec_l01Pick.f x1000 bt381.2.1 bt381.2.2 (([(⟨#[]⟩ : ByteArray), (⟨#[49, 50, 51, 52, 53, 54, 55, 56, 57]⟩ : ByteArray), (⟨#[110, 101, 119]⟩ : ByteArray)] : List ByteArray))).bind fun bt393 => (some (x372000, bt393.1, x372002, x372003, bt393.2.1, bt393.2.2))) else (if bt381.1 = 2 then (some (x372000, x372001, x372002, (⟨#[120]⟩ : ByteArray), bt381.2.1, bt381.2.2)) else (if bt381.1 = 3 then (some (x372000, x372001, (⟨#[120]⟩ : ByteArray), x372003, bt381.2.1, bt381.2.2)) else (some (x372000, x372001, x372002, x372003, bt381.2.1, bt381.2.2))))))
def spec_l03Act.f (k : Nat) (s0_0 : List Int) (s0_1 : Int) (s0_2 : Int) : Option (Int × ByteArray × ByteArray × ByteArray × Int × Int) := (spec_l01Below.f s0_0 s0_1 s0_2 4).bind fun bt365 => ((spec_l03Named.f s0_0 bt365.2.1 bt365.2.2).bind fun bt368 => (if (wrap64 (1 + bt365.1)) = 1 then ((spec_l01Below.f s0_0 bt368.2.1 bt368.2.2 6).bind fun bt372 => ((spec_l01Text.f k s0_0 bt372.2.1 bt372.2.2 bt372.1).bind fun bt375 => (spec_l03Act.j0 k s0_0 bt375.2.1 bt375.2.2 (wrap64 (1 + bt365.1)) bt368.1 bt375.1 (⟨#[]⟩ : ByteArray)))) else (if (wrap64 (1 + bt365.1)) = 3 then ((spec_l03Named.f s0_0 bt368.2.1 bt368.2.2).bind fun bt378 => (spec_l03Act.j0 k s0_0 bt378.2.1 bt378.2.2 (wrap64 (1 + bt365.1)) bt368.1 (⟨#[]⟩ : ByteArray) bt378.1)) else (spec_l03Act.j0 k s0_0 bt368.2.1 bt368.2.2 (wrap64 (1 + bt365.1)) bt368.1 (⟨#[]⟩ : ByteArray) (⟨#[]⟩ : ByteArray)))))
theorem spec_l03Act.mono_l : ∀ k, (∀ y0 y1 y2 y3 y4 y5 y6, LeO (spec_l03Act.j0 k y0 y1 y2 y3 y4 y5 y6) (spec_l03Act.j0 (k + 1) y0 y1 y2 y3 y4 y5 y6))
 | 0 => fun _ _ _ _ _ _ _ r h => by simp [spec_l03Act.j0] at h
 | k + 1 => by
  have ih0 := spec_l03Act.mono_l k
  intro y0 y1 y2 y3 y4 y5 y6
  unfold spec_l03Act.j0
  repeat' first
  | (with_reducible exact ih0 _ _ _ _ _ _ _)
  | (with_reducible exact spec_l01Text.mono _ _ _ _ _)
  | (with_reducible exact LeO.refl _)
  | (with_reducible exact LeO.none _)
  | (with_reducible refine LeO.ite ?_ ?_)
  | (with_reducible refine LeO.bind ?_ (fun _ => ?_))
  | exact ih0 _ _ _ _ _ _ _
  | exact spec_l01Text.mono _ _ _ _ _
  | exact LeO.none _
  | refine LeO.ite ?_ ?_
  | refine LeO.bind ?_ (fun _ => ?_)
theorem spec_l03Act.mono : ∀ a0 a1 a2 k, LeO (spec_l03Act.f k a0 a1 a2) (spec_l03Act.f (k + 1) a0 a1 a2) := by
 intro a0 a1 a2 k
 have ih0 := spec_l03Act.mono_l k
 unfold spec_l03Act.f
 repeat' first
   | (with_reducible exact ih0 _ _ _ _ _ _ _)
   | (with_reducible exact spec_l01Text.mono _ _ _ _ _)
   | (with_reducible exact LeO.refl _)
   | (with_reducible exact LeO.none _)
   | (with_reducible refine LeO.ite ?_ ?_)
   | (with_reducible refine LeO.bind ?_ (fun _ => ?_))
   | exact ih0 _ _ _ _ _ _ _
   | exact spec_l01Text.mono _ _ _ _ _
   | exact LeO.none _
   | refine LeO.ite ?_ ?_
   | refine LeO.bind ?_ (fun _ => ?_)
set_option maxHeartbeats 8000000 in
set_option maxRecDepth 100000 in
theorem spec_l03Act.calls (k : Nat) (g : Nat) (s0_0 : List Int) (s0_1 : Int) (s0_2 : Int) (r1 : Int) (r2 : ByteArray) (r3 : ByteArray) (r4 : ByteArray) (r5 : Int) (r6 : Int) (w0 w : World) (hI : IsS100 w0 w g s0_0 s0_1 s0_2) (hB : Below w0.heap.size w0 w) (h : spec_l03Act.f k s0_0 s0_1 s0_2 = some (r1, r2, r3, r4, r5, r6)) :
  Calls Try.prog 86 #[.pointer (some ⟨g, 0, none⟩)] w fun e w' => e = .returned (.agg #[.int .i64 r1, .string r2, .string r3, .string r4]) ∧ IsS100 w0 w' g s0_0 r5 r6 ∧ Below w0.heap.size w0 w' ∧ KeepBut w w' g none := by
 have hu55 := Try.underlying55
 have HI0 := Aside0.mk hI
 have HK := Aside0.mk (KeepBut.refl w g none)
 have HL := Aside0.mk hB.size
 clear hI
 have HW0 := Aside0.mk hB.size
 have HB := Aside0.mk hB
 clear hB
 have H : ((spec_l01Below.f s0_0 s0_1 s0_2 4).bind fun Be => ((spec_l03Named.f s0_0 Be.2.1 Be.2.2).bind fun Ap => (if (wrap64 (1 + Be.1)) = 1 then ((spec_l01Below.f s0_0 Ap.2.1 Ap.2.2 6).bind fun Ax => ((spec_l01Text.f k s0_0 Ax.2.1 Ax.2.2 Ax.1).bind fun Ar => (spec_l03Act.j0 k s0_0 Ar.2.1 Ar.2.2 (wrap64 (1 + Be.1)) Ap.1 Ar.1 (⟨#[]⟩ : ByteArray)))) else (if (wrap64 (1 + Be.1)) = 3 then ((spec_l03Named.f s0_0 Ap.2.1 Ap.2.2).bind fun Aw => (spec_l03Act.j0 k s0_0 Aw.2.1 Aw.2.2 (wrap64 (1 + Be.1)) Ap.1 (⟨#[]⟩ : ByteArray) Aw.1)) else (spec_l03Act.j0 k s0_0 Ap.2.1 Ap.2.2 (wrap64 (1 + Be.1)) Ap.1 (⟨#[]⟩ : ByteArray) (⟨#[]⟩ : ByteArray)))))) = some (r1, r2, r3, r4, r5, r6) := h
 clear h
 replace H := Option.bind_eq_some_iff.mp H
 obtain ⟨⟨Af, Ce, Cd⟩, Dy, H⟩ := H
 replace H : ((spec_l03Named.f s0_0 Ce Cd).bind fun Ap => (if (wrap64 (1 + Af)) = 1 then ((spec_l01Below.f s0_0 Ap.2.1 Ap.2.2 6).bind fun Ax => ((spec_l01Text.f k s0_0 Ax.2.1 Ax.2.2 Ax.1).bind fun Ar => (spec_l03Act.j0 k s0_0 Ar.2.1 Ar.2.2 (wrap64 (1 + Af)) Ap.1 Ar.1 (⟨#[]⟩ : ByteArray)))) else (if (wrap64 (1 + Af)) = 3 then ((spec_l03Named.f s0_0 Ap.2.1 Ap.2.2).bind fun Aw => (spec_l03Act.j0 k s0_0 Aw.2.1 Aw.2.2 (wrap64 (1 + Af)) Ap.1 (⟨#[]⟩ : ByteArray) Aw.1)) else (spec_l03Act.j0 k s0_0 Ap.2.1 Ap.2.2 (wrap64 (1 + Af)) Ap.1 (⟨#[]⟩ : ByteArray) (⟨#[]⟩ : ByteArray))))) = some (r1, r2, r3, r4, r5, r6) := H
 have A2 := Aside0.mk Dy
 clear Dy
 replace H := Option.bind_eq_some_iff.mp H
 obtain ⟨⟨Ao, Bj, Bi⟩, Dx, H⟩ := H
 replace H : (if (wrap64 (1 + Af)) = 1 then ((spec_l01Below.f s0_0 Bj Bi 6).bind fun Ax => ((spec_l01Text.f k s0_0 Ax.2.1 Ax.2.2 Ax.1).bind fun Ar => (spec_l03Act.j0 k s0_0 Ar.2.1 Ar.2.2 (wrap64 (1 + Af)) Ao Ar.1 (⟨#[]⟩ : ByteArray)))) else (if (wrap64 (1 + Af)) = 3 then ((spec_l03Named.f s0_0 Bj Bi).bind fun Aw => (spec_l03Act.j0 k s0_0 Aw.2.1 Aw.2.2 (wrap64 (1 + Af)) Ao (⟨#[]⟩ : ByteArray) Aw.1)) else (spec_l03Act.j0 k s0_0 Bj Bi (wrap64 (1 + Af)) Ao (⟨#[]⟩ : ByteArray) (⟨#[]⟩ : ByteArray)))) = some (r1, r2, r3, r4, r5, r6) := H
 have A3 := Aside0.mk Dx
 clear Dx
 have Du := Aside0.mk H
 clear H
 go_enter Try.func86, Try.ntmps86
 go_upto_block 0 with (first | ((with_reducible refine gate_dst (N := 2) rfl ?_); refine zx (N := 2) (cs := #[.int .i64 0, .string (⟨#[]⟩ : ByteArray), .string (⟨#[]⟩ : ByteArray), .string (⟨#[]⟩ : ByteArray)]) (t := 55) ?_; intro Ai hg w5 hbox hb; replace HB := ys HB hb; have Ac := Aside0.mk (hbox); have Bb := Aside0.mk ((by rw [hg]; exact (zKs HK) : w.heap.size ≤ Ai)); have GE364 := Aside0.mk ((Nat.le_trans HW0.out (by rw [hg]; exact (zKs HK) : w.heap.size ≤ Ai) : w0.heap.size ≤ Ai)); replace HK := zKt HK (KeepBut.of_below hb g none); have Aj := Aside0.mk ((by rw [hg]; exact Nat.ne_of_lt (IsS100.lt (show IsS100 w0 _ g s0_0 s0_1 s0_2 from yI HI0)) : g ≠ Ai)); have Ag := Aside0.mk ((by rw [hg]; exact Nat.ne_of_gt (IsS100.lt (show IsS100 w0 _ g s0_0 s0_1 s0_2 from yI HI0)) : Ai ≠ g)); replace HI0 := Aside0.mk (IsS100.below (yI HI0) hb); clear hb hbox hg) | ((with_reducible refine gate_callee (f := 56) rfl ?_); refine zG (some 5) Try.func56 #[.pointer (some ⟨g, 0, none⟩), .int .i64 4] ?_; (with_reducible refine (spec_l01Below.calls g s0_0 s0_1 s0_2 4 Af Ce Cd w0 _ ?side1 ?side2 A2.out).mono ?_); (case side1 => exact yF HI0); (case side2 => exact yw HB); rintro e w6 ⟨rfl, hi, hb, hk⟩; refine ⟨_, rfl, ?_⟩; replace Ac := Aside0.mk (KeepBut.blk hk (g' := Ai) (o := .cells #[.int .i64 0, .string (⟨#[]⟩ : ByteArray), .string (⟨#[]⟩ : ByteArray), .string (⟨#[]⟩ : ByteArray)] 55 (0, 0)) (zk Ac) Ag.out (by simp)); replace HK := zKt HK hk; replace HB := Aside0.mk (hb); replace HI0 := Aside0.mk (hi); clear hi hb hk) | ((with_reducible refine gate_callee (f := 59) rfl ?_); refine zG (some 8) Try.func59 #[.pointer (some ⟨g, 0, none⟩)] ?_; (with_reducible refine (spec_l03Named.calls g s0_0 Ce Cd Ao Bj Bi w0 _ ?side1 ?side2 A3.out).mono ?_); (case side1 => exact yF HI0); (case side2 => exact yw HB); rintro e w7 ⟨rfl, hi, hb, hk⟩; refine ⟨_, rfl, ?_⟩; replace Ac := Aside0.mk (KeepBut.blk hk (g' := Ai) (o := .cells #[.int .i64 0, .string (⟨#[]⟩ : ByteArray), .string (⟨#[]⟩ : ByteArray), .string (⟨#[]⟩ : ByteArray)] 55 (0, 0)) (zk Ac) Ag.out (by simp)); replace HK := zKt HK hk; replace HB := Aside0.mk (hb); replace HI0 := Aside0.mk (hi); clear hi hb hk) | ((with_reducible refine gate_dst (N := 3) rfl ?_); refine zx (N := 3) (cs := #[.int .i64 0, .string (⟨#[]⟩ : ByteArray), .string (⟨#[]⟩ : ByteArray), .string (⟨#[]⟩ : ByteArray)]) (t := 55) ?_; intro Aq hg w8 hbox hb; replace HB := ys HB hb; have Ad := Aside0.mk (hbox); have Ba := Aside0.mk ((by rw [hg]; exact (zKs HK) : w.heap.size ≤ Aq)); have GE371 := Aside0.mk ((Nat.le_trans HW0.out (by rw [hg]; exact (zKs HK) : w.heap.size ≤ Aq) : w0.heap.size ≤ Aq)); replace HK := zKt HK (KeepBut.of_below hb g none); have Al := zl Ac hg; have Ak := zr Ac hg; replace Ac := zb Ac hb; have Ah := Aside0.mk ((by rw [hg]; exact Nat.ne_of_lt (IsS100.lt (show IsS100 w0 _ g s0_0 Bj Bi from yF HI0)) : g ≠ Aq)); have Ae := Aside0.mk ((by rw [hg]; exact Nat.ne_of_gt (IsS100.lt (show IsS100 w0 _ g s0_0 Bj Bi from yF HI0)) : Aq ≠ g)); replace HI0 := Aside0.mk (IsS100.below (yF HI0) hb); clear hb hbox hg; have hnb9 := Ak.out; have hnc9 := Al.out; have hnb10 := Ae.out; have hnc10 := Ah.out; obtain ⟨Da, C9, C8, C7, Cy, Cx, Cw, Cv⟩ := zc4 Ad))
 (try simp only [Act.put, zA, zB, zC])
 go_cut [] (fun wc => ∃ (kq : Nat) (Au : Int) (As : Int) (Ab : ByteArray) (Aa : ByteArray), Aside0 (spec_l03Act.j0 kq s0_0 Au As (wrap64 (1 + Af)) Ao Ab Aa = some (r1, r2, r3, r4, r5, r6)) ∧ Aside0 (kq ≤ k) ∧ Aside0 (wc.heap[Ai]? = some (.cells #[.int .i64 0, .string (⟨#[]⟩ : ByteArray), .string (⟨#[]⟩ : ByteArray), .string (⟨#[]⟩ : ByteArray)] 55 (0, 0))) ∧ Aside0 (wc.heap[Aq]? = some (.cells #[.int .i64 (wrap64 (1 + Af)), .string Ao, .string Ab, .string Aa] 55 (0, 0))) ∧ Aside0 (IsS100 w0 wc g s0_0 Au As) ∧ Aside0 (KeepBut w wc g none) ∧ Aside0 (Below w0.heap.size w0 wc))
 case first =>
  have H := Du.out
  clear Du
  by_cases Bt : (wrap64 (1 + Af)) = 1
  ·rw [if_pos Bt] at H
   have Bf : ((wrap64 (1 + Af)) == 1) = true := beq_iff_eq.mpr Bt
   have Bs : ((wrap64 (1 + Af)) != 1) = false := bne_eq_false_iff_eq.mpr Bt
   clear Bt
   (first | rw [Bf] | (simp only [i64_w, i32_w]; rw [Bf]) | skip)
   replace H := Option.bind_eq_some_iff.mp H
   obtain ⟨⟨Bo, Cc, Cb⟩, Dp, H⟩ := H
   replace H : ((spec_l01Text.f k s0_0 Cc Cb Bo).bind fun Ar => (spec_l03Act.j0 k s0_0 Ar.2.1 Ar.2.2 (wrap64 (1 + Af)) Ao Ar.1 (⟨#[]⟩ : ByteArray))) = some (r1, r2, r3, r4, r5, r6) := H
   have D3 := Aside0.mk Dp
   clear Dp
   replace H := Option.bind_eq_some_iff.mp H
   obtain ⟨⟨Ca, B8, B2⟩, Do, H⟩ := H
   replace H : (spec_l03Act.j0 k s0_0 B8 B2 (wrap64 (1 + Af)) Ao Ca (⟨#[]⟩ : ByteArray)) = some (r1, r2, r3, r4, r5, r6) := H
   have D2 := Aside0.mk Do
   clear Do
   have H' := Aside0.mk H
   clear H
   go_wp2_with (first | ((with_reducible refine gate_callee (f := 56) rfl ?_); refine zG (some 16) Try.func56 #[.pointer (some ⟨g, 0, none⟩), .int .i64 6] ?_; (with_reducible refine (spec_l01Below.calls g s0_0 Bj Bi 6 Bo Cc Cb w0 _ ?side1 ?side2 D3.out).mono ?_); (case side1 => exact yF HI0); (case side2 => exact yw HB); rintro e w15 ⟨rfl, hi, hb, hk⟩; refine ⟨_, rfl, ?_⟩; replace Ac := Aside0.mk (KeepBut.blk hk (g' := Ai) (o := .cells #[.int .i64 0, .string (⟨#[]⟩ : ByteArray), .string (⟨#[]⟩ : ByteArray), .string (⟨#[]⟩ : ByteArray)] 55 (0, 0)) (zkf Ac) Ag.out (by simp)); replace Ad := Aside0.mk (KeepBut.blk hk (g' := Aq) (o := .cells #[.int .i64 (wrap64 (1 + Af)), .string Ao, .string (⟨#[]⟩ : ByteArray), .string (⟨#[]⟩ : ByteArray)] 55 (0, 0)) (zj Ad) Ae.out (by simp)); replace HK := zKt HK hk; replace HB := Aside0.mk (hb); replace HI0 := Aside0.mk (hi); clear hi hb hk) | ((with_reducible refine gate_callee (f := 57) rfl ?_); refine zG (some 17) Try.func57 #[.pointer (some ⟨g, 0, none⟩), .int .i64 Bo] ?_; (with_reducible refine (spec_l01Text.calls k g s0_0 Cc Cb Bo Ca B8 B2 w0 _ ?side1 ?side2 D2.out).mono ?_); (case side1 => exact yF HI0); (case side2 => exact yw HB); rintro e w16 ⟨rfl, hi, hb, hk⟩; refine ⟨_, rfl, ?_⟩; replace Ac := Aside0.mk (KeepBut.blk hk (g' := Ai) (o := .cells #[.int .i64 0, .string (⟨#[]⟩ : ByteArray), .string (⟨#[]⟩ : ByteArray), .string (⟨#[]⟩ : ByteArray)] 55 (0, 0)) (zk Ac) Ag.out (by simp)); replace Ad := Aside0.mk (KeepBut.blk hk (g' := Aq) (o := .cells #[.int .i64 (wrap64 (1 + Af)), .string Ao, .string (⟨#[]⟩ : ByteArray), .string (⟨#[]⟩ : ByteArray)] 55 (0, 0)) (zk Ad) Ae.out (by simp)); replace HK := zKt HK hk; replace HB := Aside0.mk (hb); replace HI0 := Aside0.mk (hi); clear hi hb hk; have hnb17 := Ak.out; have hnc17 := Al.out; have hnb18 := Ae.out; have hnc18 := Ah.out; obtain ⟨C6, C5, C4, C3, Cu, Ct, Cs, Cr⟩ := zc4 Ad))
   go_meet
   case rel => exact ⟨_, (B8), (B2), (Ca), ((⟨#[]⟩ : ByteArray)), H', ⟨by first | omega | exact Nat.le_refl _⟩, ⟨zkf Ac⟩, ⟨zj Ad⟩, ⟨by repeat (first | (with_reducible first | exact HI0.out | apply IsS100.alloc | apply IsS100.drewN | apply IsS100.drew | apply IsS100.set_1 | apply IsS100.set_2 | refine IsS100.far ?_ Aj.out _ | refine IsS100.far ?_ Ah.out _) | exact HI0.out)⟩, ⟨by repeat (first | (with_reducible first | exact HK.out | apply KeepBut.set_ | apply keep_drewN | apply keep_drew | apply keep_alloc | refine keep_far ?_ Bb.out _ | refine keep_far ?_ Ba.out _) | exact HK.out)⟩, ⟨yw HB⟩⟩
  rw [if_neg Bt] at H
  have Bf : ((wrap64 (1 + Af)) == 1) = false := beq_eq_false_iff_ne.mpr Bt
  have Bs : ((wrap64 (1 + Af)) != 1) = true := bne_iff_ne.mpr Bt
  (first | rw [Bf] | (simp only [i64_w, i32_w]; rw [Bf]) | skip)
  by_cases Br : (wrap64 (1 + Af)) = 3
  ·rw [if_pos Br] at H
   have Bq : ((wrap64 (1 + Af)) == 3) = true := beq_iff_eq.mpr Br
   have Bp : ((wrap64 (1 + Af)) != 3) = false := bne_eq_false_iff_eq.mpr Br
   clear Br
   replace H := Option.bind_eq_some_iff.mp H
   obtain ⟨⟨B1, B0, Bz⟩, Dn, H⟩ := H
   replace H : (spec_l03Act.j0 k s0_0 B0 Bz (wrap64 (1 + Af)) Ao (⟨#[]⟩ : ByteArray) B1) = some (r1, r2, r3, r4, r5, r6) := H
   have D1 := Aside0.mk Dn
   clear Dn
   have H' := Aside0.mk H
   clear H
   go_wp2_with (first | ((with_reducible refine gate_callee (f := 59) rfl ?_); refine zG (some 22) Try.func59 #[.pointer (some ⟨g, 0, none⟩)] ?_; (with_reducible refine (spec_l03Named.calls g s0_0 Bj Bi B1 B0 Bz w0 _ ?side1 ?side2 D1.out).mono ?_); (case side1 => exact yF HI0); (case side2 => exact yw HB); rintro e w22 ⟨rfl, hi, hb, hk⟩; refine ⟨_, rfl, ?_⟩; replace Ac := Aside0.mk (KeepBut.blk hk (g' := Ai) (o := .cells #[.int .i64 0, .string (⟨#[]⟩ : ByteArray), .string (⟨#[]⟩ : ByteArray), .string (⟨#[]⟩ : ByteArray)] 55 (0, 0)) (zkf Ac) Ag.out (by simp)); replace Ad := Aside0.mk (KeepBut.blk hk (g' := Aq) (o := .cells #[.int .i64 (wrap64 (1 + Af)), .string Ao, .string (⟨#[]⟩ : ByteArray), .string (⟨#[]⟩ : ByteArray)] 55 (0, 0)) (zj Ad) Ae.out (by simp)); replace HK := zKt HK hk; replace HB := Aside0.mk (hb); replace HI0 := Aside0.mk (hi); clear hi hb hk; have hnb23 := Ak.out; have hnc23 := Al.out; have hnb24 := Ae.out; have hnc24 := Ah.out; obtain ⟨C2, C1, C0, Cz, Cq, Cp, Co, Cn⟩ := zc4 Ad))
   go_meet
   case rel => exact ⟨_, (B0), (Bz), ((⟨#[]⟩ : ByteArray)), (B1), H', ⟨by first | omega | exact Nat.le_refl _⟩, ⟨zkf Ac⟩, ⟨zj Ad⟩, ⟨by repeat (first | (with_reducible first | exact HI0.out | apply IsS100.alloc | apply IsS100.drewN | apply IsS100.drew | apply IsS100.set_1 | apply IsS100.set_2 | refine IsS100.far ?_ Aj.out _ | refine IsS100.far ?_ Ah.out _) | exact HI0.out)⟩, ⟨by repeat (first | (with_reducible first | exact HK.out | apply KeepBut.set_ | apply keep_drewN | apply keep_drew | apply keep_alloc | refine keep_far ?_ Bb.out _ | refine keep_far ?_ Ba.out _) | exact HK.out)⟩, ⟨yw HB⟩⟩
  rw [if_neg Br] at H
  have Bq : ((wrap64 (1 + Af)) == 3) = false := beq_eq_false_iff_ne.mpr Br
  have Bp : ((wrap64 (1 + Af)) != 3) = true := bne_iff_ne.mpr Br
  have H' := Aside0.mk H
  clear H
  go_wp2
  go_meet
  case rel => exact ⟨_, (Bj), (Bi), ((⟨#[]⟩ : ByteArray)), ((⟨#[]⟩ : ByteArray)), H', ⟨by first | omega | exact Nat.le_refl _⟩, ⟨zkf Ac⟩, ⟨zj Ad⟩, ⟨by repeat (first | (with_reducible first | exact HI0.out | apply IsS100.alloc | apply IsS100.drewN | apply IsS100.drew | apply IsS100.set_1 | apply IsS100.set_2 | refine IsS100.far ?_ Aj.out _ | refine IsS100.far ?_ Ah.out _) | exact HI0.out)⟩, ⟨by repeat (first | (with_reducible first | exact HK.out | apply KeepBut.set_ | apply keep_drewN | apply keep_drew | apply keep_alloc | refine keep_far ?_ Bb.out _ | refine keep_far ?_ Ba.out _) | exact HK.out)⟩, ⟨yw HB⟩⟩
 case rest =>
  clear Du
  try clear c1
  try clear c2
  try clear p2
  try clear c5
  try clear p6
  try clear c8
  try clear c9
  try clear c10
  try clear Bt
  try clear Bf
  try clear Bs
  try clear c17
  try clear c18
  try clear Br
  try clear Bq
  try clear Bp
  try clear c23
  try clear c24
  try clear Da
  try clear C9
  try clear C8
  try clear C7
  try clear C6
  try clear C5
  try clear C4
  try clear C3
  try clear C2
  try clear C1
  try clear C0
  try clear Cz
  try clear Cy
  try clear Cx
  try clear Cw
  try clear Cv
  try clear Cu
  try clear Ct
  try clear Cs
  try clear Cr
  try clear Cq
  try clear Cp
  try clear Co
  try clear Cn
  obtain ⟨kq, Au, As, Ab, Aa, HA, HJ3, Ac, Ad, HI0, HK, HB⟩ := hcut
  cases kq with
  | zero => exact absurd HA.out (by simp [spec_l03Act.j0])
  | succ kj3 =>
   have H := HA.out
   clear HA
   simp only [spec_l03Act.j0] at H
   replace H := Option.bind_eq_some_iff.mp H
   obtain ⟨⟨Am, Az, Ay⟩, Dl, H⟩ := H
   replace H : (if Am = 0 then ((spec_l01PickInt.f s0_0 Az Ay (([0, 5] : List Int))).bind fun Bd => (some (Bd.1, Ao, Ab, Aa, Bd.2.1, Bd.2.2))) else (if Am = 1 then ((spec_l01Pick.f s0_0 Az Ay (([(⟨#[]⟩ : ByteArray), (⟨#[49, 50, 51, 52, 53, 54, 55, 56, 57]⟩ : ByteArray), (⟨#[110, 101, 119]⟩ : ByteArray)] : List ByteArray))).bind fun Bc => (some ((wrap64 (1 + Af)), Bc.1, Ab, Aa, Bc.2.1, Bc.2.2))) else (if Am = 2 then (some ((wrap64 (1 + Af)), Ao, Ab, (⟨#[120]⟩ : ByteArray), Az, Ay)) else (if Am = 3 then (some ((wrap64 (1 + Af)), Ao, (⟨#[120]⟩ : ByteArray), Aa, Az, Ay)) else (some ((wrap64 (1 + Af)), Ao, Ab, Aa, Az, Ay)))))) = some (r1, r2, r3, r4, r5, r6) := H
   have Dm := Aside0.mk Dl
   clear Dl
   by_cases Ci : Am = 0
   ·rw [if_pos Ci] at H
    have Di : (Am == 0) = true := beq_iff_eq.mpr Ci
    have Dh : (Am != 0) = false := bne_eq_false_iff_eq.mpr Ci
    clear Ci
    obtain ⟨Bv, Bl⟩ : ∃ y_ : List Int, y_ = (([0, 5] : List Int)) := ⟨_, rfl⟩
    replace H : ((spec_l01PickInt.f s0_0 Az Ay Bv).bind fun Bd => (some (Bd.1, Ao, Ab, Aa, Bd.2.1, Bd.2.2))) = some (r1, r2, r3, r4, r5, r6) := zrw Bl H
    have Ny384 := Aside0.mk Bl
    clear Bl
    replace H := Option.bind_eq_some_iff.mp H
    obtain ⟨⟨Bx, Cm, Cl⟩, Dk, H⟩ := H
    replace H : (some (Bx, Ao, Ab, Aa, Cm, Cl)) = some (r1, r2, r3, r4, r5, r6) := H
    have D0 := Aside0.mk Dk
    clear Dk
    simp only [Option.some.injEq, Prod.mk.injEq] at H
    obtain ⟨rfl, rfl, rfl, rfl, rfl, rfl⟩ := H
    go_wp2_with (first | ((with_reducible refine gate_callee (f := 56) rfl ?_); refine zG (some 25) Try.func56 #[.pointer (some ⟨g, 0, none⟩), .int .i64 40] ?_; (with_reducible refine (spec_l01Below.calls g s0_0 Au As 40 Am Az Ay w0 _ ?side1 ?side2 Dm.out).mono ?_); (case side1 => exact yF HI0); (case side2 => exact yw HB); rintro e w29 ⟨rfl, hi, hb, hk⟩; refine ⟨_, rfl, ?_⟩; replace Ac := Aside0.mk (KeepBut.blk hk (g' := Ai) (o := .cells #[.int .i64 0, .string (⟨#[]⟩ : ByteArray), .string (⟨#[]⟩ : ByteArray), .string (⟨#[]⟩ : ByteArray)] 55 (0, 0)) (zk Ac) Ag.out (by simp)); replace Ad := Aside0.mk (KeepBut.blk hk (g' := Aq) (o := .cells #[.int .i64 (wrap64 (1 + Af)), .string Ao, .string Ab, .string Aa] 55 (0, 0)) (zk Ad) Ae.out (by simp)); replace HK := zKt HK hk; replace HB := Aside0.mk (hb); replace HI0 := Aside0.mk (hi); clear hi hb hk) | ((with_reducible refine gate_dst (N := 29) rfl ?_); refine Kd.R_lit (Kd.int .i64) _ 3 ?hg (N := 29) ?hd (xs := ([0, 5] : List Int)) (inner := [.int .i64 0, .int .i64 5]) (ok := fun _ => True) (okp := fun _ => True) ?hr ?hp (fun _ hk => hk) trivial (Below.refl _ _) (Nat.le_refl _) (by simp) ?_; (case hd => rfl); (case hg => rfl); (case hr => first | (go_simp; done) | (go_simp; rfl)); (case hp => exact (Reps.one (show Kd.M (Kd.int .i64) _ _ _ 0 [.int .i64 0] from rfl) (Reps.one (show Kd.M (Kd.int .i64) _ _ _ 5 [.int .i64 5] from rfl) (Reps.none _ _)))); intro v385 w30 Bn hb hg_ hnew_; clear hg_ hnew_; (first | rw [← Ny384.out] at Bn | (simp only [Int.reduceToNat] at Bn; rw [← Ny384.out] at Bn)); have Bh := Aside0.mk (Kd.R_lower Bn (zKs HK)); replace Ac := zb Ac hb; replace Ad := zb Ad hb; replace HK := zKt HK (KeepBut.of_below hb g none); replace HB := ys HB hb; replace HI0 := Aside0.mk (IsS100.below (yF HI0) hb); clear hb Bn; obtain ⟨Dw, Dt, Dr⟩ := Kd.R_slice Bh.out; subst Dr) | ((with_reducible refine gate_callee (f := 83) rfl ?_); refine zG (some 30) Try.func83 #[.pointer (some ⟨g, 0, none⟩), .slice Dw Bv.length Dt] ?_; (with_reducible refine (spec_l01PickInt.calls g s0_0 Az Ay _ _ Bv Bx Cm Cl w0 _ ?side1 ?side2 ?side3 ?side4 ?side5 D0.out).mono ?_); (case side1 => exact yF HI0); (case side2 => exact yw HB); (case side3 => exact zI (Kd.R_reads' Bh.out).2.2); (case side4 => exact (Kd.R_reads' Bh.out).2.1); (case side5 => exact far_slice (IsS100.own_ne HI0.out Bh.out (by decide))); rintro e w33 ⟨rfl, hi, hb, hk⟩; refine ⟨_, rfl, ?_⟩; replace Ac := Aside0.mk (KeepBut.blk hk (g' := Ai) (o := .cells #[.int .i64 0, .string (⟨#[]⟩ : ByteArray), .string (⟨#[]⟩ : ByteArray), .string (⟨#[]⟩ : ByteArray)] 55 (0, 0)) (zk Ac) Ag.out (by simp)); replace Ad := Aside0.mk (KeepBut.blk hk (g' := Aq) (o := .cells #[.int .i64 (wrap64 (1 + Af)), .string Ao, .string Ab, .string Aa] 55 (0, 0)) (zk Ad) Ae.out (by simp)); replace Bh := Aside0.mk (Kd.R_mono (Kd.R_keep (IsS100.apart (show IsS100 w0 _ g s0_0 Az Ay from yF HI0) (zo Bh.out) (by decide)) hk (fun _ h => h.2)) (fun _ h => h.1)); replace HK := zKt HK hk; replace HB := Aside0.mk (hb); replace HI0 := Aside0.mk (hi); clear hi hb hk; have hnb34 := Ak.out; have hnc34 := Al.out; have hnb35 := Ae.out; have hnc35 := Ah.out; obtain ⟨_, _, _, _, _, _, _, _⟩ := zc4 Ad; have hnb37 := Ag.out; have hnc37 := Aj.out; obtain ⟨_, _, _, _, _, _, _, _⟩ := zc4 Ac))
    refine bodyPost_ret (results_cell_row rfl _ _ Ai 55 #[.int .i64 Bx, .string Ao, .string Ab, .string Aa] (0, 0) _ rfl (zj Ac) Try.underlying55 rfl (by kernel_rfl)) rfl ?_
    exact ⟨ze, by repeat (first | (with_reducible first | exact HI0.out | apply IsS100.alloc | apply IsS100.drewN | apply IsS100.drew | apply IsS100.set_1 | apply IsS100.set_2 | refine IsS100.far ?_ Aj.out _ | refine IsS100.far ?_ Ah.out _) | exact HI0.out), yw HB, by repeat (first | (with_reducible first | exact HK.out | apply KeepBut.set_ | apply keep_drewN | apply keep_drew | apply keep_alloc | refine keep_far ?_ Bb.out _ | refine keep_far ?_ Ba.out _) | exact HK.out)⟩
   rw [if_neg Ci] at H
   have Di : (Am == 0) = false := beq_eq_false_iff_ne.mpr Ci
   have Dh : (Am != 0) = true := bne_iff_ne.mpr Ci
   by_cases Ch : Am = 1
   ·rw [if_pos Ch] at H
    have Dg : (Am == 1) = true := beq_iff_eq.mpr Ch
    have Df : (Am != 1) = false := bne_eq_false_iff_eq.mpr Ch
    clear Ch
    obtain ⟨Bu, Bk⟩ : ∃ y_ : List ByteArray, y_ = (([(⟨#[]⟩ : ByteArray), (⟨#[49, 50, 51, 52, 53, 54, 55, 56, 57]⟩ : ByteArray), (⟨#[110, 101, 119]⟩ : ByteArray)] : List ByteArray)) := ⟨_, rfl⟩
    replace H : ((spec_l01Pick.f s0_0 Az Ay Bu).bind fun Bc => (some ((wrap64 (1 + Af)), Bc.1, Ab, Aa, Bc.2.1, Bc.2.2))) = some (r1, r2, r3, r4, r5, r6) := zrw Bk H
    have Ny390 := Aside0.mk Bk
    clear Bk
    replace H := Option.bind_eq_some_iff.mp H
    obtain ⟨⟨Bw, Ck, Cj⟩, Dj, H⟩ := H
    replace H : (some ((wrap64 (1 + Af)), Bw, Ab, Aa, Ck, Cj)) = some (r1, r2, r3, r4, r5, r6) := H
    have Dz := Aside0.mk Dj
    clear Dj
    simp only [Option.some.injEq, Prod.mk.injEq] at H
    obtain ⟨rfl, rfl, rfl, rfl, rfl, rfl⟩ := H
    go_wp2_with (first | ((with_reducible refine gate_callee (f := 56) rfl ?_); refine zG (some 25) Try.func56 #[.pointer (some ⟨g, 0, none⟩), .int .i64 40] ?_; (with_reducible refine (spec_l01Below.calls g s0_0 Au As 40 Am Az Ay w0 _ ?side1 ?side2 Dm.out).mono ?_); (case side1 => exact yF HI0); (case side2 => exact yw HB); rintro e w41 ⟨rfl, hi, hb, hk⟩; refine ⟨_, rfl, ?_⟩; replace Ac := Aside0.mk (KeepBut.blk hk (g' := Ai) (o := .cells #[.int .i64 0, .string (⟨#[]⟩ : ByteArray), .string (⟨#[]⟩ : ByteArray), .string (⟨#[]⟩ : ByteArray)] 55 (0, 0)) (zk Ac) Ag.out (by simp)); replace Ad := Aside0.mk (KeepBut.blk hk (g' := Aq) (o := .cells #[.int .i64 (wrap64 (1 + Af)), .string Ao, .string Ab, .string Aa] 55 (0, 0)) (zk Ad) Ae.out (by simp)); replace HK := zKt HK hk; replace HB := Aside0.mk (hb); replace HI0 := Aside0.mk (hi); clear hi hb hk) | ((with_reducible refine gate_dst (N := 35) rfl ?_); refine Kd.R_lit Kd.string _ 9 ?hg (N := 35) ?hd (xs := ([(⟨#[]⟩ : ByteArray), (⟨#[49, 50, 51, 52, 53, 54, 55, 56, 57]⟩ : ByteArray), (⟨#[110, 101, 119]⟩ : ByteArray)] : List ByteArray)) (inner := [.string (⟨#[]⟩ : ByteArray), .string (⟨#[49, 50, 51, 52, 53, 54, 55, 56, 57]⟩ : ByteArray), .string (⟨#[110, 101, 119]⟩ : ByteArray)]) (ok := fun _ => True) (okp := fun _ => True) ?hr ?hp (fun _ hk => hk) trivial (Below.refl _ _) (Nat.le_refl _) (by simp) ?_; (case hd => rfl); (case hg => rfl); (case hr => first | (go_simp; done) | (go_simp; rfl)); (case hp => exact (Reps.one (show Kd.M Kd.string _ _ _ (⟨#[]⟩ : ByteArray) [.string (⟨#[]⟩ : ByteArray)] from rfl) (Reps.one (show Kd.M Kd.string _ _ _ (⟨#[49, 50, 51, 52, 53, 54, 55, 56, 57]⟩ : ByteArray) [.string (⟨#[49, 50, 51, 52, 53, 54, 55, 56, 57]⟩ : ByteArray)] from rfl) (Reps.one (show Kd.M Kd.string _ _ _ (⟨#[110, 101, 119]⟩ : ByteArray) [.string (⟨#[110, 101, 119]⟩ : ByteArray)] from rfl) (Reps.none _ _))))); intro v391 w42 Bm hb hg_ hnew_; clear hg_ hnew_; (first | rw [← Ny390.out] at Bm | (simp only [Int.reduceToNat] at Bm; rw [← Ny390.out] at Bm)); have Bg := Aside0.mk (Kd.R_lower Bm (zKs HK)); replace Ac := zb Ac hb; replace Ad := zb Ad hb; replace HK := zKt HK (KeepBut.of_below hb g none); replace HB := ys HB hb; replace HI0 := Aside0.mk (IsS100.below (yF HI0) hb); clear hb Bm; obtain ⟨Dv, Ds, Dq⟩ := Kd.R_slice Bg.out; subst Dq) | ((with_reducible refine gate_callee (f := 79) rfl ?_); refine zG (some 36) Try.func79 #[.pointer (some ⟨g, 0, none⟩), .slice Dv Bu.length Ds] ?_; (with_reducible refine (spec_l01Pick.calls g s0_0 Az Ay _ _ Bu Bw Ck Cj w0 _ ?side1 ?side2 ?side3 ?side4 ?side5 Dz.out).mono ?_); (case side1 => exact yF HI0); (case side2 => exact yw HB); (case side3 => exact zI (Kd.R_reads' Bg.out).2.2); (case side4 => exact (Kd.R_reads' Bg.out).2.1); (case side5 => exact far_slice (IsS100.own_ne HI0.out Bg.out (by decide))); rintro e w45 ⟨rfl, hi, hb, hk⟩; refine ⟨_, rfl, ?_⟩; replace Ac := Aside0.mk (KeepBut.blk hk (g' := Ai) (o := .cells #[.int .i64 0, .string (⟨#[]⟩ : ByteArray), .string (⟨#[]⟩ : ByteArray), .string (⟨#[]⟩ : ByteArray)] 55 (0, 0)) (zk Ac) Ag.out (by simp)); replace Ad := Aside0.mk (KeepBut.blk hk (g' := Aq) (o := .cells #[.int .i64 (wrap64 (1 + Af)), .string Ao, .string Ab, .string Aa] 55 (0, 0)) (zk Ad) Ae.out (by simp)); replace Bg := Aside0.mk (Kd.R_mono (Kd.R_keep (IsS100.apart (show IsS100 w0 _ g s0_0 Az Ay from yF HI0) (zo Bg.out) (by decide)) hk (fun _ h => h.2)) (fun _ h => h.1)); replace HK := zKt HK hk; replace HB := Aside0.mk (hb); replace HI0 := Aside0.mk (hi); clear hi hb hk; have hnb46 := Ak.out; have hnc46 := Al.out; have hnb47 := Ae.out; have hnc47 := Ah.out; obtain ⟨_, _, _, _, _, _, _, _⟩ := zc4 Ad; have hnb49 := Ag.out; have hnc49 := Aj.out; obtain ⟨_, _, _, _, _, _, _, _⟩ := zc4 Ac))
    refine bodyPost_ret (results_cell_row rfl _ _ Ai 55 #[.int .i64 (wrap64 (1 + Af)), .string Bw, .string Ab, .string Aa] (0, 0) _ rfl (zj Ac) Try.underlying55 rfl (by kernel_rfl)) rfl ?_
    exact ⟨ze, by repeat (first | (with_reducible first | exact HI0.out | apply IsS100.alloc | apply IsS100.drewN | apply IsS100.drew | apply IsS100.set_1 | apply IsS100.set_2 | refine IsS100.far ?_ Aj.out _ | refine IsS100.far ?_ Ah.out _) | exact HI0.out), yw HB, by repeat (first | (with_reducible first | exact HK.out | apply KeepBut.set_ | apply keep_drewN | apply keep_drew | apply keep_alloc | refine keep_far ?_ Bb.out _ | refine keep_far ?_ Ba.out _) | exact HK.out)⟩
   rw [if_neg Ch] at H
   have Dg : (Am == 1) = false := beq_eq_false_iff_ne.mpr Ch
   have Df : (Am != 1) = true := bne_iff_ne.mpr Ch
   by_cases Cg : Am = 2
   ·rw [if_pos Cg] at H
    have De : (Am == 2) = true := beq_iff_eq.mpr Cg
    have Dd : (Am != 2) = false := bne_eq_false_iff_eq.mpr Cg
    clear Cg
    simp only [Option.some.injEq, Prod.mk.injEq] at H
    obtain ⟨rfl, rfl, rfl, rfl, rfl, rfl⟩ := H
    go_wp2_with (first | ((with_reducible refine gate_callee (f := 56) rfl ?_); refine zG (some 25) Try.func56 #[.pointer (some ⟨g, 0, none⟩), .int .i64 40] ?_; (with_reducible refine (spec_l01Below.calls g s0_0 Au As 40 Am Az Ay w0 _ ?side1 ?side2 Dm.out).mono ?_); (case side1 => exact yF HI0); (case side2 => exact yw HB); rintro e w52 ⟨rfl, hi, hb, hk⟩; refine ⟨_, rfl, ?_⟩; replace Ac := Aside0.mk (KeepBut.blk hk (g' := Ai) (o := .cells #[.int .i64 0, .string (⟨#[]⟩ : ByteArray), .string (⟨#[]⟩ : ByteArray), .string (⟨#[]⟩ : ByteArray)] 55 (0, 0)) (zk Ac) Ag.out (by simp)); replace Ad := Aside0.mk (KeepBut.blk hk (g' := Aq) (o := .cells #[.int .i64 (wrap64 (1 + Af)), .string Ao, .string Ab, .string Aa] 55 (0, 0)) (zk Ad) Ae.out (by simp)); replace HK := zKt HK hk; replace HB := Aside0.mk (hb); replace HI0 := Aside0.mk (hi); clear hi hb hk; have hnb53 := Ak.out; have hnc53 := Al.out; have hnb54 := Ae.out; have hnc54 := Ah.out; obtain ⟨_, _, _, _, _, _, _, _⟩ := zc4 Ad; have hnb56 := Ag.out; have hnc56 := Aj.out; obtain ⟨_, _, _, _, _, _, _, _⟩ := zc4 Ac))
    refine bodyPost_ret (results_cell_row rfl _ _ Ai 55 #[.int .i64 (wrap64 (1 + Af)), .string Ao, .string Ab, .string (⟨#[120]⟩ : ByteArray)] (0, 0) _ rfl (zj Ac) Try.underlying55 rfl (by kernel_rfl)) rfl ?_
    exact ⟨ze, by repeat (first | (with_reducible first | exact HI0.out | apply IsS100.alloc | apply IsS100.drewN | apply IsS100.drew | apply IsS100.set_1 | apply IsS100.set_2 | refine IsS100.far ?_ Aj.out _ | refine IsS100.far ?_ Ah.out _) | exact HI0.out), yw HB, by repeat (first | (with_reducible first | exact HK.out | apply KeepBut.set_ | apply keep_drewN | apply keep_drew | apply keep_alloc | refine keep_far ?_ Bb.out _ | refine keep_far ?_ Ba.out _) | exact HK.out)⟩
   rw [if_neg Cg] at H
   have De : (Am == 2) = false := beq_eq_false_iff_ne.mpr Cg
   have Dd : (Am != 2) = true := bne_iff_ne.mpr Cg
   by_cases Cf : Am = 3
   ·rw [if_pos Cf] at H
    have Dc : (Am == 3) = true := beq_iff_eq.mpr Cf
    have Db : (Am != 3) = false := bne_eq_false_iff_eq.mpr Cf
    clear Cf
    simp only [Option.some.injEq, Prod.mk.injEq] at H
    obtain ⟨rfl, rfl, rfl, rfl, rfl, rfl⟩ := H
    go_wp2_with (first | ((with_reducible refine gate_callee (f := 56) rfl ?_); refine zG (some 25) Try.func56 #[.pointer (some ⟨g, 0, none⟩), .int .i64 40] ?_; (with_reducible refine (spec_l01Below.calls g s0_0 Au As 40 Am Az Ay w0 _ ?side1 ?side2 Dm.out).mono ?_); (case side1 => exact yF HI0); (case side2 => exact yw HB); rintro e w59 ⟨rfl, hi, hb, hk⟩; refine ⟨_, rfl, ?_⟩; replace Ac := Aside0.mk (KeepBut.blk hk (g' := Ai) (o := .cells #[.int .i64 0, .string (⟨#[]⟩ : ByteArray), .string (⟨#[]⟩ : ByteArray), .string (⟨#[]⟩ : ByteArray)] 55 (0, 0)) (zk Ac) Ag.out (by simp)); replace Ad := Aside0.mk (KeepBut.blk hk (g' := Aq) (o := .cells #[.int .i64 (wrap64 (1 + Af)), .string Ao, .string Ab, .string Aa] 55 (0, 0)) (zk Ad) Ae.out (by simp)); replace HK := zKt HK hk; replace HB := Aside0.mk (hb); replace HI0 := Aside0.mk (hi); clear hi hb hk; have hnb60 := Ak.out; have hnc60 := Al.out; have hnb61 := Ae.out; have hnc61 := Ah.out; obtain ⟨_, _, _, _, _, _, _, _⟩ := zc4 Ad; have hnb63 := Ag.out; have hnc63 := Aj.out; obtain ⟨_, _, _, _, _, _, _, _⟩ := zc4 Ac))
    refine bodyPost_ret (results_cell_row rfl _ _ Ai 55 #[.int .i64 (wrap64 (1 + Af)), .string Ao, .string (⟨#[120]⟩ : ByteArray), .string Aa] (0, 0) _ rfl (zj Ac) Try.underlying55 rfl (by kernel_rfl)) rfl ?_
    exact ⟨ze, by repeat (first | (with_reducible first | exact HI0.out | apply IsS100.alloc | apply IsS100.drewN | apply IsS100.drew | apply IsS100.set_1 | apply IsS100.set_2 | refine IsS100.far ?_ Aj.out _ | refine IsS100.far ?_ Ah.out _) | exact HI0.out), yw HB, by repeat (first | (with_reducible first | exact HK.out | apply KeepBut.set_ | apply keep_drewN | apply keep_drew | apply keep_alloc | refine keep_far ?_ Bb.out _ | refine keep_far ?_ Ba.out _) | exact HK.out)⟩
   rw [if_neg Cf] at H
   have Dc : (Am == 3) = false := beq_eq_false_iff_ne.mpr Cf
   have Db : (Am != 3) = true := bne_iff_ne.mpr Cf
   simp only [Option.some.injEq, Prod.mk.injEq] at H
   obtain ⟨rfl, rfl, rfl, rfl, rfl, rfl⟩ := H
   go_wp2_with (first | ((with_reducible refine gate_callee (f := 56) rfl ?_); refine zG (some 25) Try.func56 #[.pointer (some ⟨g, 0, none⟩), .int .i64 40] ?_; (with_reducible refine (spec_l01Below.calls g s0_0 Au As 40 Am Az Ay w0 _ ?side1 ?side2 Dm.out).mono ?_); (case side1 => exact yF HI0); (case side2 => exact yw HB); rintro e w65 ⟨rfl, hi, hb, hk⟩; refine ⟨_, rfl, ?_⟩; replace Ac := Aside0.mk (KeepBut.blk hk (g' := Ai) (o := .cells #[.int .i64 0, .string (⟨#[]⟩ : ByteArray), .string (⟨#[]⟩ : ByteArray), .string (⟨#[]⟩ : ByteArray)] 55 (0, 0)) (zk Ac) Ag.out (by simp)); replace Ad := Aside0.mk (KeepBut.blk hk (g' := Aq) (o := .cells #[.int .i64 (wrap64 (1 + Af)), .string Ao, .string Ab, .string Aa] 55 (0, 0)) (zk Ad) Ae.out (by simp)); replace HK := zKt HK hk; replace HB := Aside0.mk (hb); replace HI0 := Aside0.mk (hi); clear hi hb hk; have hnb66 := Ak.out; have hnc66 := Al.out; have hnb67 := Ae.out; have hnc67 := Ah.out; obtain ⟨_, _, _, _, _, _, _, _⟩ := zc4 Ad; have hnb69 := Ag.out; have hnc69 := Aj.out; obtain ⟨_, _, _, _, _, _, _, _⟩ := zc4 Ac))
   refine bodyPost_ret (results_cell_row rfl _ _ Ai 55 #[.int .i64 (wrap64 (1 + Af)), .string Ao, .string Ab, .string Aa] (0, 0) _ rfl (zj Ac) Try.underlying55 rfl (by kernel_rfl)) rfl ?_
   exact ⟨ze, by repeat (first | (with_reducible first | exact HI0.out | apply IsS100.alloc | apply IsS100.drewN | apply IsS100.drew | apply IsS100.set_1 | apply IsS100.set_2 | refine IsS100.far ?_ Aj.out _ | refine IsS100.far ?_ Ah.out _) | exact HI0.out), yw HB, by repeat (first | (with_reducible first | exact HK.out | apply KeepBut.set_ | apply keep_drewN | apply keep_drew | apply keep_alloc | refine keep_far ?_ Bb.out _ | refine keep_far ?_ Ba.out _) | exact HK.out)⟩

/-! ### spec_l01Once: function 87 -/
def spec_l01Once.f (s0_0 : List Int) (s0_1 : Int) (s0_2 : Int) (a1 : Int) : Option (Bool × Int × Int) := (spec_l01Below.f s0_0 s0_1 s0_2 a1).bind fun bt396 => (some ((bt396.1 == 0), bt396.2.1, bt396.2.2))
set_option maxHeartbeats 8000000 in
set_option maxRecDepth 100000 in
theorem spec_l01Once.calls (g : Nat) (s0_0 : List Int) (s0_1 : Int) (s0_2 : Int) (a1 : Int) (r1 : Bool) (r2 : Int) (r3 : Int) (w0 w : World) (hI : IsS100 w0 w g s0_0 s0_1 s0_2) (hB : Below w0.heap.size w0 w) (h : spec_l01Once.f s0_0 s0_1 s0_2 a1 = some (r1, r2, r3)) :
  Calls Try.prog 87 #[.pointer (some ⟨g, 0, none⟩), .int .i64 a1] w fun e w' => e = .returned (.bool r1) ∧ IsS100 w0 w' g s0_0 r2 r3 ∧ Below w0.heap.size w0 w' ∧ KeepBut w w' g none := by
 have HI0 := Aside0.mk hI
 have HK := Aside0.mk (KeepBut.refl w g none)
 have HL := Aside0.mk hB.size
 clear hI
 have HW0 := Aside0.mk hB.size
 have HB := Aside0.mk hB
 clear hB
 have H : ((spec_l01Below.f s0_0 s0_1 s0_2 a1).bind fun Aa => (some ((Aa.1 == 0), Aa.2.1, Aa.2.2))) = some (r1, r2, r3) := h
 clear h
 replace H := Option.bind_eq_some_iff.mp H
 obtain ⟨⟨Ad, Ac, Ab⟩, Ae, H⟩ := H
 replace H : (some ((Ad == 0), Ac, Ab)) = some (r1, r2, r3) := H
 have A3 := Aside0.mk Ae
 clear Ae
 simp only [Option.some.injEq, Prod.mk.injEq] at H
 obtain ⟨rfl, rfl, rfl⟩ := H
 go_enter Try.func87, Try.ntmps87
 go_wp2_with (first | ((with_reducible refine gate_callee (f := 56) rfl ?_); refine zG (some 7) Try.func56 #[.pointer (some ⟨g, 0, none⟩), .int .i64 a1] ?_; (with_reducible refine (spec_l01Below.calls g s0_0 s0_1 s0_2 a1 Ad Ac Ab w0 _ ?side1 ?side2 A3.out).mono ?_); (case side1 => exact yI HI0); (case side2 => exact yw HB); rintro e w4 ⟨rfl, hi, hb, hk⟩; refine ⟨_, rfl, ?_⟩; replace HK := zKt HK hk; replace HB := Aside0.mk (hb); replace HI0 := Aside0.mk (hi); clear hi hb hk))
 go_ret
 exact ⟨ze, yI HI0, yw HB, by repeat (first | (with_reducible first | exact HK.out | apply KeepBut.set_ | apply keep_drewN | apply keep_drew | apply keep_alloc) | exact HK.out)⟩

theorem yG {w0 W W1 W2 : World} {g : Nat} {f0 : List Int} {f1 f2 : Int} {row : Option Nat} (h : Aside0 (IsS100 w0 W g f0 f1 f2)) (hg : W1.grownBy W2 row) (hne : some g ≠ row) (t : IsS100 w0 W g f0 f1 f2 → IsS100 w0 W1 g f0 f1 f2 := by intro h_; repeat (first | (with_reducible first | exact h_ | refine IsS100.far ?_ (Aside0.out (by assumption)) _) | exact h_)) : Aside0 (IsS100 w0 W2 g f0 f1 f2) := ⟨IsS100.grown (t h.out) hg hne⟩
/-! ### spec_l03Acts: function 71 -/
def spec_l03Acts.l0 : Nat → List (S55) → Int → List Int → Int → Int → List (S45) → Option ((List (S55)) × Int × Int)
 | 0, _, _, _, _, _, _ => none
 | k + 1, x5, x6, x1000, x1001, x1002, x400000 => (spec_l01Below.f x1000 x1001 x1002 9).bind fun bt403 => (if x6 < bt403.1 then ((spec_l03Act.f k x1000 bt403.2.1 bt403.2.2).bind fun bt406 => ((spec_DoAct.f k x400000 bt406.1 bt406.2.1 bt406.2.2.1 bt406.2.2.2.1).bind fun bt413 => (if bt413.2 = true then (if x5.length < 2513169434916 then (spec_l03Acts.l0 k (x5 ++ [(⟨bt406.1, bt406.2.1, bt406.2.2.1, bt406.2.2.2.1⟩ : S55)]) (wrap64 (x6 + 1)) x1000 bt406.2.2.2.2.1 bt406.2.2.2.2.2 bt413.1) else (none)) else ((spec_l01Once.f x1000 bt406.2.2.2.2.1 bt406.2.2.2.2.2 20).bind fun bt421 => (if bt421.1 = true then (if x5.length < 2513169434916 then (spec_l03Acts.l0 k (x5 ++ [(⟨bt406.1, bt406.2.1, bt406.2.2.1, bt406.2.2.2.1⟩ : S55)]) (wrap64 (x6 + 1)) x1000 bt421.2.1 bt421.2.2 bt413.1) else (none)) else (spec_l03Acts.l0 k x5 (wrap64 (x6 + 1)) x1000 bt421.2.1 bt421.2.2 x400000)))))) else (some (x5, bt403.2.1, bt403.2.2)))
def spec_l03Acts.f (k : Nat) (s0_0 : List Int) (s0_1 : Int) (s0_2 : Int) (l1_0 : List (S45)) : Option ((List (S55)) × Int × Int) := spec_l03Acts.l0 k (([] : List (S55))) 0 s0_0 s0_1 s0_2 l1_0
theorem spec_l03Acts.mono_l : ∀ k, (∀ y0 y1 y2 y3 y4 y5, LeO (spec_l03Acts.l0 k y0 y1 y2 y3 y4 y5) (spec_l03Acts.l0 (k + 1) y0 y1 y2 y3 y4 y5))
 | 0 => fun _ _ _ _ _ _ r h => by simp [spec_l03Acts.l0] at h
 | k + 1 => by
  have ih0 := spec_l03Acts.mono_l k
  intro y0 y1 y2 y3 y4 y5
  unfold spec_l03Acts.l0
  repeat' first
  | (with_reducible exact ih0 _ _ _ _ _ _)
  | (with_reducible exact spec_DoAct.mono _ _ _ _ _ _)
  | (with_reducible exact spec_l03Act.mono _ _ _ _)
  | (with_reducible exact LeO.refl _)
  | (with_reducible exact LeO.none _)
  | (with_reducible refine LeO.ite ?_ ?_)
  | (with_reducible refine LeO.bind ?_ (fun _ => ?_))
  | exact ih0 _ _ _ _ _ _
  | exact spec_DoAct.mono _ _ _ _ _ _
  | exact spec_l03Act.mono _ _ _ _
  | exact LeO.none _
  | refine LeO.ite ?_ ?_
  | refine LeO.bind ?_ (fun _ => ?_)
theorem spec_l03Acts.mono : ∀ a0 a1 a2 a3 k, LeO (spec_l03Acts.f k a0 a1 a2 a3) (spec_l03Acts.f (k + 1) a0 a1 a2 a3) := by
 intro a0 a1 a2 a3 k
 have ih0 := spec_l03Acts.mono_l k
 unfold spec_l03Acts.f
 repeat' first
   | (with_reducible exact ih0 _ _ _ _ _ _)
   | (with_reducible exact spec_DoAct.mono _ _ _ _ _ _)
   | (with_reducible exact spec_l03Act.mono _ _ _ _)
   | (with_reducible exact LeO.refl _)
   | (with_reducible exact LeO.none _)
   | (with_reducible refine LeO.ite ?_ ?_)
   | (with_reducible refine LeO.bind ?_ (fun _ => ?_))
   | exact ih0 _ _ _ _ _ _
   | exact spec_DoAct.mono _ _ _ _ _ _
   | exact spec_l03Act.mono _ _ _ _
   | exact LeO.none _
   | refine LeO.ite ?_ ?_
   | refine LeO.bind ?_ (fun _ => ?_)
set_option maxHeartbeats 8000000 in
set_option maxRecDepth 100000 in
theorem spec_l03Acts.calls (k : Nat) (g : Nat) (s0_0 : List Int) (s0_1 : Int) (s0_2 : Int) (P1_0_ : Nat → Prop) (A1_0 : Option Addr) (c1_0 : Nat) (l1_0 : List (S45)) (r1 : List (S55)) (r2 : Int) (r3 : Int) (w0 w : World) (hI : IsS100 w0 w g s0_0 s0_1 s0_2) (hB : Below w0.heap.size w0 w) (hs1_0 : Kd.V k45 45 w w.heap.size (fun k_ => P1_0_ k_ ∧ k_ ≠ g) (.slice A1_0 l1_0.length c1_0) l1_0) (h : spec_l03Acts.f k s0_0 s0_1 s0_2 l1_0 = some (r1, r2, r3)) :
  Calls Try.prog 71 #[.pointer (some ⟨g, 0, none⟩), .agg #[.slice A1_0 l1_0.length c1_0]] w fun e w' => ∃ v0_ : Value, e = .returned (v0_) ∧ Kd.R k55 55 w' w.heap.size (fun k_ => (w.heap.size ≤ k_)) v0_ r1 ∧ IsS100 w0 w' g s0_0 r2 r3 ∧ Below w0.heap.size w0 w' ∧ KeepBut w w' g none := by
 have hu29 := Try.underlying29
 have hu55 := Try.underlying55
 have Bx := Aside0.mk (show Kd.V k45 45 w w.heap.size (fun k_ => (P1_0_ k_ ∨ w.heap.size ≤ k_) ∧ k_ ≠ g) (.slice A1_0 l1_0.length c1_0) l1_0 from Kd.V_mono hs1_0 (fun k_ hk => ⟨.inl hk.1, hk.2⟩))
 have HI0 := Aside0.mk hI
 have HK := Aside0.mk (KeepBut.refl w g none)
 have HL := Aside0.mk hB.size
 clear hI
 have HW0 := Aside0.mk hB.size
 have HB := Aside0.mk hB
 clear hB
 have H : (spec_l03Acts.l0 k (([] : List (S55))) 0 s0_0 s0_1 s0_2 l1_0) = some (r1, r2, r3) := h
 clear h
 obtain ⟨Cq, Ca⟩ : ∃ y_ : List (S55), y_ = (([] : List (S55))) := ⟨_, rfl⟩
 replace H : (spec_l03Acts.l0 k Cq 0 s0_0 s0_1 s0_2 l1_0) = some (r1, r2, r3) := zrw Ca H
 have Ny400 := Aside0.mk Ca
 clear Ca
 have H' := Aside0.mk H
 clear H
 go_enter Try.func71, Try.ntmps71
 go_wp2_with (first | ((with_reducible refine gate_dst (N := 3) rfl ?_); refine zx (N := 3) (cs := #[.slice A1_0 l1_0.length c1_0]) (t := 29) ?_; intro Af hg w3 hbox hb; replace Bx := Aside0.mk (Kd.V_below (Kd.V_elderB (by (with_reducible repeat (first | apply Kd.V_alloc | apply Kd.V_drewN | apply Kd.V_drew)); exact Bx.out) Af (Nat.le_of_eq hg.symm)) hb); replace HB := ys HB hb; have Ac := Aside0.mk (hbox); have Bs := Aside0.mk ((by rw [hg]; exact (zKs HK) : w.heap.size ≤ Af)); have GE399 := Aside0.mk ((Nat.le_trans HW0.out (by rw [hg]; exact (zKs HK) : w.heap.size ≤ Af) : w0.heap.size ≤ Af)); replace HK := zKt HK (KeepBut.of_below hb g none); have Bd := Aside0.mk ((by rw [hg]; exact Nat.ne_of_lt (IsS100.lt (show IsS100 w0 _ g s0_0 s0_1 s0_2 from yI HI0)) : g ≠ Af)); have Aq := Aside0.mk ((by rw [hg]; exact Nat.ne_of_gt (IsS100.lt (show IsS100 w0 _ g s0_0 s0_1 s0_2 from yI HI0)) : Af ≠ g)); replace HI0 := Aside0.mk (IsS100.below (yI HI0) hb); clear hb hbox hg) | ((with_reducible refine gate_dst (N := 10) rfl ?_); refine Kd.R_lit k55 _ 55 ?hg (N := 10) ?hd (xs := ([] : List (S55))) (inner := []) (ok := fun _ => True) (okp := fun _ => True) ?hr ?hp (fun _ hk => hk) trivial (Below.refl _ _) (Nat.le_refl _) (by simp) ?_; (case hd => rfl); (case hg => rfl); (case hr => first | (go_simp; done) | (go_simp; rfl)); (case hp => exact (Reps.none _ _)); intro v401 w4 Cm hb hg_ hnew_; clear hg_ hnew_; (first | rw [← Ny400.out] at Cm | (simp only [Int.reduceToNat] at Cm; rw [← Ny400.out] at Cm)); replace Bx := Aside0.mk (Kd.V_elder' (by (with_reducible repeat (first | apply Kd.V_alloc | apply Kd.V_drewN | apply Kd.V_drew)); exact Bx.out) (Kd.R_base Cm) hb); have Cu := Aside0.mk (Kd.R_lower (Kd.R_newM (M := fun k_ => (w.heap.size ≤ k_)) Cm (zKs HK) (fun k_ h_ => h_)) (zKs HK)); replace Ac := zb Ac hb; replace HK := zKt HK (KeepBut.of_below hb g none); replace HB := ys HB hb; replace HI0 := Aside0.mk (IsS100.below (yF HI0) hb); clear hb Cm))
 go_loopg [5, 6] k (fun kq v5 v6 w' => ∃ (Au : List (S55)) (Be : Int) (Ax : Int) (Aw : Int) (Ad : List (S45)) (Ay : Value), v6 = .int .i64 Be ∧ Aside0 (spec_l03Acts.l0 kq Au Be s0_0 Ax Aw Ad = some (r1, r2, r3)) ∧ Aside0 (kq ≤ k) ∧ Aside0 (Kd.R k55 55 w' w.heap.size (fun k_ => (w.heap.size ≤ k_)) v5 Au) ∧ Aside0 (Kd.V k45 45 w' w.heap.size (fun k_ => (P1_0_ k_ ∨ w.heap.size ≤ k_) ∧ some k_ ≠ (v5 : Value).ownBlock ∧ k_ ≠ Af ∧ k_ ≠ g) Ay Ad) ∧ Aside0 (w'.heap[Af]? = some (.cells #[Ay] 29 (0, 0))) ∧ Aside0 (IsS100 w0 w' g s0_0 Ax Aw) ∧ Aside0 (KeepBut w w' g none) ∧ Aside0 (Below w0.heap.size w0 w'))
 case atStart => exact ⟨(Cq), (0), (s0_1), (s0_2), (l1_0), (.slice A1_0 l1_0.length c1_0), zf, H', ⟨Nat.le_refl _⟩, ⟨zo (Kd.R_mono Cu.out (fun _ hk => hk.1))⟩, ⟨by (with_reducible repeat (first | apply Kd.V_alloc | apply Kd.V_drewN | apply Kd.V_drew)); exact Kd.V_mono Bx.out (fun _ hk => ⟨hk.1.1.1, ⟨hk.2, ⟨hk.1.2, hk.1.1.2⟩⟩⟩)⟩, ⟨zkf Ac⟩, ⟨by repeat (first | (with_reducible first | exact HI0.out | apply IsS100.alloc | apply IsS100.drewN | apply IsS100.drew | apply IsS100.set_1 | apply IsS100.set_2 | refine IsS100.far ?_ Bd.out _) | exact HI0.out)⟩, ⟨by repeat (first | (with_reducible first | exact HK.out | apply KeepBut.set_ | apply keep_drewN | apply keep_drew | apply keep_alloc | refine keep_far ?_ Bs.out _) | exact HK.out)⟩, ⟨yw HB⟩⟩
 case round =>
  clear H'
  try clear c1
  try clear p2
  obtain ⟨Au, Be, Ax, Aw, Ad, Ay, rfl, HA, Cn, Ag, Aa, Ac, HI0, HK, HB⟩ := hrel
  cases gk with
  | zero => exact absurd HA.out (by simp [spec_l03Acts.l0])
  | succ k1 =>
   have H := HA.out
   clear HA
   simp only [spec_l03Acts.l0] at H
   replace H := Option.bind_eq_some_iff.mp H
   obtain ⟨⟨B1, Bo, Bn⟩, Db, H⟩ := H
   replace H : (if Be < B1 then ((spec_l03Act.f k1 s0_0 Bo Bn).bind fun Ba => ((spec_DoAct.f k1 Ad Ba.1 Ba.2.1 Ba.2.2.1 Ba.2.2.2.1).bind fun Bp => (if Bp.2 = true then (if Au.length < 2513169434916 then (spec_l03Acts.l0 k1 (Au ++ [(⟨Ba.1, Ba.2.1, Ba.2.2.1, Ba.2.2.2.1⟩ : S55)]) (wrap64 (Be + 1)) s0_0 Ba.2.2.2.2.1 Ba.2.2.2.2.2 Bp.1) else (none)) else ((spec_l01Once.f s0_0 Ba.2.2.2.2.1 Ba.2.2.2.2.2 20).bind fun Az => (if Az.1 = true then (if Au.length < 2513169434916 then (spec_l03Acts.l0 k1 (Au ++ [(⟨Ba.1, Ba.2.1, Ba.2.2.1, Ba.2.2.2.1⟩ : S55)]) (wrap64 (Be + 1)) s0_0 Az.2.1 Az.2.2 Bp.1) else (none)) else (spec_l03Acts.l0 k1 Au (wrap64 (Be + 1)) s0_0 Az.2.1 Az.2.2 Ad)))))) else (some (Au, Bo, Bn))) = some (r1, r2, r3) := H
   have A6 := Aside0.mk Db
   clear Db
   by_cases c7 : Be < B1
   ·rw [if_pos c7] at H
    have C8 := decide_eq_true c7
    clear c7
    replace H := Option.bind_eq_some_iff.mp H
    obtain ⟨⟨Al, Ak, Aj, Ai, As, Ar⟩, Da, H⟩ := H
    replace H : ((spec_DoAct.f k1 Ad Al Ak Aj Ai).bind fun Bp => (if Bp.2 = true then (if Au.length < 2513169434916 then (spec_l03Acts.l0 k1 (Au ++ [(⟨Al, Ak, Aj, Ai⟩ : S55)]) (wrap64 (Be + 1)) s0_0 As Ar Bp.1) else (none)) else ((spec_l01Once.f s0_0 As Ar 20).bind fun Az => (if Az.1 = true then (if Au.length < 2513169434916 then (spec_l03Acts.l0 k1 (Au ++ [(⟨Al, Ak, Aj, Ai⟩ : S55)]) (wrap64 (Be + 1)) s0_0 Az.2.1 Az.2.2 Bp.1) else (none)) else (spec_l03Acts.l0 k1 Au (wrap64 (Be + 1)) s0_0 Az.2.1 Az.2.2 Ad))))) = some (r1, r2, r3) := H
    have A8 := Aside0.mk Da
    clear Da
    replace H := Option.bind_eq_some_iff.mp H
    obtain ⟨⟨Ao, Ct⟩, C9, H⟩ := H
    replace H : (if Ct = true then (if Au.length < 2513169434916 then (spec_l03Acts.l0 k1 (Au ++ [(⟨Al, Ak, Aj, Ai⟩ : S55)]) (wrap64 (Be + 1)) s0_0 As Ar Ao) else (none)) else ((spec_l01Once.f s0_0 As Ar 20).bind fun Az => (if Az.1 = true then (if Au.length < 2513169434916 then (spec_l03Acts.l0 k1 (Au ++ [(⟨Al, Ak, Aj, Ai⟩ : S55)]) (wrap64 (Be + 1)) s0_0 Az.2.1 Az.2.2 Ao) else (none)) else (spec_l03Acts.l0 k1 Au (wrap64 (Be + 1)) s0_0 Az.2.1 Az.2.2 Ad)))) = some (r1, r2, r3) := H
    have A9 := Aside0.mk C9
    clear C9
    by_cases C1 : Ct = true
    ·subst C1
     rw [if_pos rfl] at H
     by_cases C0 : Au.length < 2513169434916
     ·rw [if_pos C0] at H
      have LMc11 := Aside0.mk C0
      clear C0
      obtain ⟨Cp, B8⟩ : ∃ y_ : List (S55), y_ = (Au ++ [(⟨Al, Ak, Aj, Ai⟩ : S55)]) := ⟨_, rfl⟩
      replace H : (spec_l03Acts.l0 k1 Cp (wrap64 (Be + 1)) s0_0 As Ar Ao) = some (r1, r2, r3) := zrw B8 H
      have Ny418 := Aside0.mk B8
      clear B8
      have H' := Aside0.mk H
      clear H
      go_wp2_with (first | ((with_reducible refine gate_callee (f := 56) rfl ?_); refine zG (some 13) Try.func56 #[.pointer (some ⟨g, 0, none⟩), .int .i64 9] ?_; (with_reducible refine (spec_l01Below.calls g s0_0 Ax Aw 9 B1 Bo Bn w0 _ ?side1 ?side2 A6.out).mono ?_); (case side1 => exact yF HI0); (case side2 => exact yw HB); rintro e w12 ⟨rfl, hi, hb, hk⟩; refine ⟨_, rfl, ?_⟩; replace Ag := Aside0.mk (Kd.R_mono (Kd.R_keep (IsS100.apart (show IsS100 w0 _ g s0_0 Ax Aw from yF HI0) (zo Ag.out) (by decide)) hk (fun _ h => h.2)) (fun _ h => h.1)); replace Aa := Aside0.mk (Kd.V_mono (Kd.V_keep (Kd.V_mono (ok := fun k_ => (((P1_0_ k_ ∨ w.heap.size ≤ k_)) ∧ (some k_ ≠ (u5 : Value).ownBlock ∧ (k_ ≠ Af ∧ k_ ≠ g)))) (by (with_reducible repeat (first | apply Kd.V_alloc | apply Kd.V_drewN | apply Kd.V_drew)); exact Aa.out) (fun k_ hk_ => (⟨hk_, hk_.2.2.2⟩ : _ ∧ k_ ≠ g))) hk (fun _ h => h.2)) (fun _ h => h.1)); replace Ac := Aside0.mk (KeepBut.blk hk (g' := Af) (o := .cells #[Ay] 29 (0, 0)) (zk Ac) Aq.out (by simp)); replace HK := zKt HK hk; replace HB := Aside0.mk (hb); replace HI0 := Aside0.mk (hi); clear hi hb hk) | ((with_reducible refine gate_callee (f := 86) rfl ?_); refine zG (some 18) Try.func86 #[.pointer (some ⟨g, 0, none⟩)] ?_; (with_reducible refine (spec_l03Act.calls k1 g s0_0 Bo Bn Al Ak Aj Ai As Ar w0 _ ?side1 ?side2 A8.out).mono ?_); (case side1 => exact yF HI0); (case side2 => exact yw HB); rintro e w13 ⟨rfl, hi, hb, hk⟩; refine ⟨_, rfl, ?_⟩; replace Ag := Aside0.mk (Kd.R_mono (Kd.R_keep (IsS100.apart (show IsS100 w0 _ g s0_0 Bo Bn from yF HI0) (zo Ag.out) (by decide)) hk (fun _ h => h.2)) (fun _ h => h.1)); replace Aa := Aside0.mk (Kd.V_mono (Kd.V_keep (Kd.V_mono (ok := fun k_ => (((P1_0_ k_ ∨ w.heap.size ≤ k_)) ∧ (some k_ ≠ (u5 : Value).ownBlock ∧ (k_ ≠ Af ∧ k_ ≠ g)))) (by (with_reducible repeat (first | apply Kd.V_alloc | apply Kd.V_drewN | apply Kd.V_drew)); exact Aa.out) (fun k_ hk_ => (⟨hk_, hk_.2.2.2⟩ : _ ∧ k_ ≠ g))) hk (fun _ h => h.2)) (fun _ h => h.1)); replace Ac := Aside0.mk (KeepBut.blk hk (g' := Af) (o := .cells #[Ay] 29 (0, 0)) (zk Ac) Aq.out (by simp)); replace HK := zKt HK hk; replace HB := Aside0.mk (hb); replace HI0 := Aside0.mk (hi); clear hi hb hk) | ((with_reducible refine gate_dst (N := 7) rfl ?_); refine zx (N := 7) (cs := #[.int .i64 0, .string (⟨#[]⟩ : ByteArray), .string (⟨#[]⟩ : ByteArray), .string (⟨#[]⟩ : ByteArray)]) (t := 55) ?_; intro Ab hg Df hbox hb; replace Ag := Aside0.mk (Kd.R_below (Kd.R_elderB (zo Ag.out) Ab (Nat.le_of_eq hg.symm)) hb); replace Aa := Aside0.mk (Kd.V_below (Kd.V_elderB (by (with_reducible repeat (first | apply Kd.V_alloc | apply Kd.V_drewN | apply Kd.V_drew)); exact Aa.out) Ab (Nat.le_of_eq hg.symm)) hb); replace HB := ys HB hb; have Ah := Aside0.mk (hbox); have Br := Aside0.mk ((by rw [hg]; exact (zKs HK) : w.heap.size ≤ Ab)); have Ci := Aside0.mk ((Nat.le_trans HW0.out (by rw [hg]; exact (zKs HK) : w.heap.size ≤ Ab) : w0.heap.size ≤ Ab)); replace HK := zKt HK (KeepBut.of_below hb g none); have Bk := zl Ac hg; have Bi := zr Ac hg; replace Ac := zb Ac hb; have Bc := Aside0.mk ((by rw [hg]; exact Nat.ne_of_lt (IsS100.lt (show IsS100 w0 _ g s0_0 As Ar from yF HI0)) : g ≠ Ab)); have Bm := Aside0.mk ((by rw [hg]; exact Nat.ne_of_gt (IsS100.lt (show IsS100 w0 _ g s0_0 As Ar from yF HI0)) : Ab ≠ g)); replace HI0 := Aside0.mk (IsS100.below (yF HI0) hb); clear hb hbox hg; have hnb15 := Bi.out; have hnc15 := Bk.out; have hnb16 := Bm.out; have hnc16 := Bc.out; obtain ⟨_, _, _, _, _, _, _, _⟩ := zc4 Ah; have hnb18 := Aq.out; have hnc18 := Bd.out; obtain ⟨_, _⟩ := zc1 Ac; obtain ⟨Cw, Ck, C7⟩ := Kd.V_slice Aa.out; subst C7) | ((with_reducible refine gate_callee (f := 35) rfl ?_); refine zG (some 22) Try.func35 #[.agg #[.slice Cw Ad.length Ck], .agg #[.int .i64 Al, .string Ak, .string Aj, .string Ai]] ?_; (with_reducible refine (spec_DoAct.calls k1 _ _ Ad Al Ak Aj Ai Ao true _ ?side1 ?side2 A9.out).mono ?_); (case side1 => refine (Kd.V_reads' (e := 45) (base := w.heap.size) (ok := fun k_ => (((P1_0_ k_ ∨ w.heap.size ≤ k_) ∧ (some k_ ≠ (u5 : Value).ownBlock ∧ (k_ ≠ Af ∧ k_ ≠ g))) ∧ k_ ≠ Ab)) (n := Ad.length) (c := Ck) ?_).2.2; exact (by (with_reducible repeat (first | apply Kd.V_alloc | apply Kd.V_drewN | apply Kd.V_drew)); exact (Kd.V_mono (Kd.V_far (p := ⟨Ab, 3, none⟩) (Kd.V_far (p := ⟨Ab, 2, none⟩) (Kd.V_far (p := ⟨Ab, 1, none⟩) (Kd.V_far (p := ⟨Ab, 0, none⟩) (Kd.V_mono Aa.out (fun k_ hk => (⟨hk, hk.2⟩ : _ ∧ k_ ≠ Ab))) (fun _ hk => hk.2) (.int .i64 Al)) (fun _ hk => hk.2) (.string Ak)) (fun _ hk => hk.2) (.string Aj)) (fun _ hk => hk.2) (.string Ai)) (fun _ h_ => h_.1)))); (case side2 => exact (Kd.V_reads' Aa.out).2.1); rintro e w21 ⟨Cr, rfl, Cb, hb⟩; refine ⟨_, rfl, ?_⟩; replace Ag := Aside0.mk (Kd.R_below (zo ((Kd.R_mono (Kd.R_far (p := ⟨Ab, 3, none⟩) (Kd.R_far (p := ⟨Ab, 2, none⟩) (Kd.R_far (p := ⟨Ab, 1, none⟩) (Kd.R_far (p := ⟨Ab, 0, none⟩) (Kd.R_mono Ag.out (fun k_ hk => (⟨hk, hk.2⟩ : _ ∧ k_ ≠ Ab))) (fun _ hk => hk.2) (.int .i64 Al)) (fun _ hk => hk.2) (.string Ak)) (fun _ hk => hk.2) (.string Aj)) (fun _ hk => hk.2) (.string Ai)) (fun _ h_ => h_.1)))) hb); replace Aa := Aside0.mk (Kd.V_elder' (by (with_reducible repeat (first | apply Kd.V_alloc | apply Kd.V_drewN | apply Kd.V_drew)); exact (Kd.V_mono (Kd.V_far (p := ⟨Ab, 3, none⟩) (Kd.V_far (p := ⟨Ab, 2, none⟩) (Kd.V_far (p := ⟨Ab, 1, none⟩) (Kd.V_far (p := ⟨Ab, 0, none⟩) (Kd.V_mono Aa.out (fun k_ hk => (⟨hk, hk.2⟩ : _ ∧ k_ ≠ Ab))) (fun _ hk => hk.2) (.int .i64 Al)) (fun _ hk => hk.2) (.string Ak)) (fun _ hk => hk.2) (.string Aj)) (fun _ hk => hk.2) (.string Ai)) (fun _ h_ => h_.1))) (Kd.R_base Cb) hb); have Ap := Aside0.mk (Kd.R_lower (Kd.R_newM (M := fun k_ => (w.heap.size ≤ k_)) Cb (zKs HK) (fun k_ h_ => h_)) (zKs HK)); replace Ac := zbf Ac hb; replace Ah := Aside0.mk (blk_below (g := Ab) (o := .cells #[.int .i64 Al, .string Ak, .string Aj, .string Ai] 55 (0, 0)) (zj Ah) hb); replace HK := zKt HK (KeepBut.of_below hb g none); replace HB := ys HB hb; replace HI0 := Aside0.mk (IsS100.below (show IsS100 w0 ((((Df.setCell ⟨Ab, 0, none⟩ (.int .i64 Al)).setCell ⟨Ab, 1, none⟩ (.string Ak)).setCell ⟨Ab, 2, none⟩ (.string Aj)).setCell ⟨Ab, 3, none⟩ (.string Ai)) g s0_0 As Ar from yF HI0) hb); clear Cb hb) | ((with_reducible refine gate_dst (N := 8) rfl ?_); refine zx (N := 8) (cs := #[.slice none 0 0]) (t := 29) ?_; intro Ae hg w22 hbox hb; replace Ag := zy Ag hb; replace Aa := Aside0.mk (Kd.V_below (Kd.V_elderB (by (with_reducible repeat (first | apply Kd.V_alloc | apply Kd.V_drewN | apply Kd.V_drew)); exact Aa.out) Ae (Nat.le_of_eq hg.symm)) hb); replace Ap := zy Ap hb; replace HB := ys HB hb; have Am := Aside0.mk (hbox); have Bq := Aside0.mk ((by rw [hg]; exact (zKs HK) : w.heap.size ≤ Ae)); have Ch := Aside0.mk ((Nat.le_trans HW0.out (by rw [hg]; exact (zKs HK) : w.heap.size ≤ Ae) : w0.heap.size ≤ Ae)); replace HK := zKt HK (KeepBut.of_below hb g none); have Bj := zl Ac hg; have Bg := zr Ac hg; replace Ac := zb Ac hb; have Bh := zl Ah hg; have Bf := zr Ah hg; replace Ah := zb Ah hb; have Bb := Aside0.mk ((by rw [hg]; exact Nat.ne_of_lt (IsS100.lt (show IsS100 w0 _ g s0_0 As Ar from yF HI0)) : g ≠ Ae)); have Bl := Aside0.mk ((by rw [hg]; exact Nat.ne_of_gt (IsS100.lt (show IsS100 w0 _ g s0_0 As Ar from yF HI0)) : Ae ≠ g)); replace HI0 := Aside0.mk (IsS100.below (yF HI0) hb); clear hb hbox hg; obtain ⟨Bw, Bu, C6⟩ := Kd.R_slice Ap.out; subst C6; have hnb24 := Bg.out; have hnc24 := Bj.out; have hnb25 := Bf.out; have hnc25 := Bh.out; have hnb26 := Bl.out; have hnc26 := Bb.out; obtain ⟨_, _⟩ := zc1 Am; obtain ⟨_, _, _, _, _, _, _, _⟩ := zc4 Ah) | ((with_reducible refine gate_builtin (b := .append) (xs := #[.tmp 30, .tmp 32]) rfl ?_); at_builtin; refine Kd.R_append k55 w.heap.size rfl (.tmp 30) (.tmp 32) 62 55 (.agg #[(.int .i64 0), (.string ⟨#[]⟩), (.string ⟨#[]⟩), (.string ⟨#[]⟩)]) 56 rfl Try.underlying62 info55 rfl (by decide) (by omega) u5 Au (⟨Al, Ak, Aj, Ai⟩ : S55) [.int .i64 Al, .string Ak, .string Aj, .string Ai] (fun k_ => (w.heap.size ≤ k_) ∧ k_ ≠ Ab) (fun _ => False) rfl (by first | (go_simp; done) | (go_simp; rfl)) ?aP (fun _ hk => hk.elim) ?aF ?aO (Below.refl _ _) ?aS ?aL ?_; (case aP => exact k55_mkM _ _ _ (⟨Al, Ak, Aj, Ai⟩ : S55)); (case aF => exact (fun k_ hk => ⟨(Nat.le_trans (zKs HK) hk), Kd.freshB (g := Ab) (o := .cells #[.int .i64 Al, .string Ak, .string Aj, .string Ai] 55 (0, 0)) (zkf Ah) k_ hk⟩)); (case aO => exact (zo (Kd.R_mono (Kd.R_far (p := ⟨Ae, 0, none⟩) (Kd.R_types Ag.out Am.out (by decide)) (fun _ hk => hk.2) (.slice Bw Ao.length Bu)) (fun _ hk => ⟨hk.1.1, hk.1.2⟩)))); (case aS => exact (zKs HK)); (case aL => have := LMc11.out; omega); intro v419 w29 ho hb hg hat; rw [← Ny418.out] at ho; replace Aa := Aside0.mk (Kd.V_afterv (ok := (fun k_ => (P1_0_ k_ ∨ w.heap.size ≤ k_) ∧ some k_ ≠ (.slice Bw Ao.length Bu : Value).ownBlock ∧ k_ ≠ Af ∧ k_ ≠ g ∧ k_ ≠ Ab ∧ k_ ≠ Ae)) (by (with_reducible repeat (first | apply Kd.V_alloc | apply Kd.V_drewN | apply Kd.V_drew)); exact Kd.V_mono (Kd.V_far (p := ⟨Ae, 0, none⟩) (Kd.V_mono Aa.out (fun k_ hk => (⟨hk, hk.2⟩ : _ ∧ k_ ≠ Ae))) (fun _ hk => hk.2) (.slice Bw Ao.length Bu)) (fun _ hk => ⟨⟨hk.1.1.1.1.1, ⟨hk.1.1.2, ⟨hk.1.1.1.1.2.2.1, ⟨hk.1.1.1.1.2.2.2, ⟨hk.1.1.1.2, hk.1.2⟩⟩⟩⟩⟩, hk.1.1.1.1.2.1⟩)) hg hat); replace Ac := Aside0.mk (blk_grown (g := Af) (o := .cells #[.slice Cw Ad.length Ck] 29 (0, 0)) (zkf Ac) hg (Kd.R_ne Ag.out Ac.out (by decide))); replace Ah := Aside0.mk (blk_grown (g := Ab) (o := .cells #[.int .i64 Al, .string Ak, .string Aj, .string Ai] 55 (0, 0)) (zkf Ah) hg (Kd.R_away Ag.out (fun _ hk => hk.2))); replace Ap := Aside0.mk (Kd.R_over' (zo ((Kd.R_mono (Kd.R_far (p := ⟨Ae, 0, none⟩) (Kd.R_types Ap.out Am.out (by decide)) (fun _ hk => hk.2) (.slice Bw Ao.length Bu)) (fun _ h_ => h_.1)))) (Kd.R_typed (zo ((Kd.R_mono (Kd.R_far (p := ⟨Ae, 0, none⟩) (Kd.R_types Ag.out Am.out (by decide)) (fun _ hk => hk.2) (.slice Bw Ao.length Bu)) (fun _ h_ => h_.1))))) (by decide) hg); replace Am := Aside0.mk (blk_grown (g := Ae) (o := .cells #[.slice Bw Ao.length Bu] 29 (0, 0)) (zj Am) hg (Kd.R_ne Ag.out Am.out (by decide))); replace HB := Aside0.mk (below_weaken (yw HB) HL.out hb); replace HI0 := yG HI0 hg (IsS100.own_ne HI0.out Ag.out (by decide)); replace HK := Aside0.mk (KeepBut.trans (by repeat (first | (with_reducible first | exact HK.out | apply KeepBut.set_ | apply keep_drewN | apply keep_drew | apply keep_alloc | refine keep_far ?_ Bs.out _ | refine keep_far ?_ Br.out _ | refine keep_far ?_ Bq.out _) | exact HK.out)) (KeepBut.of_grown hg g) (Kd.R_base2 Ag.out)); have Cg := Aside0.mk (ho); clear Ag; clear ho hb hg hat; obtain ⟨_, _⟩ := zc1 Am; obtain ⟨_, _⟩ := zc1 Ac))
      go_roundg k1
      case measure => have := Cn.out; omega
      case rel => exact ⟨(Cp), (wrap64 (Be + 1)), (As), (Ar), (Ao), (.slice Bw Ao.length Bu), zf, H', ⟨by have := Cn.out; omega⟩, ⟨zo (Kd.R_mono (Kd.R_far (p := ⟨Af, 0, none⟩) (Kd.R_types Cg.out Ac.out (by decide)) (fun _ hk => hk.2) (.slice Bw Ao.length Bu)) (fun _ hk => hk.1.1))⟩, ⟨Kd.R_V (zo (Kd.R_mono (Kd.R_far (p := ⟨Af, 0, none⟩) (Kd.R_types (IsS100.apart HI0.out (Kd.R_types (Kd.R_apart' Ap.out (Kd.R_typed Cg.out) (by decide)) Ac.out (by decide)) (by decide)) Ac.out (by decide)) (fun _ hk => hk.2) (.slice Bw Ao.length Bu)) (fun _ hk => ⟨.inr hk.1.1.1.1.1, ⟨hk.1.1.1.2, ⟨hk.1.1.2, hk.1.2⟩⟩⟩)))⟩, ⟨zj Ac⟩, ⟨by repeat (first | (with_reducible first | exact HI0.out | apply IsS100.alloc | apply IsS100.drewN | apply IsS100.drew | apply IsS100.set_1 | apply IsS100.set_2 | refine IsS100.far ?_ Bd.out _ | refine IsS100.far ?_ Bc.out _ | refine IsS100.far ?_ Bb.out _) | exact HI0.out)⟩, ⟨by repeat (first | (with_reducible first | exact HK.out | apply KeepBut.set_ | apply keep_drewN | apply keep_drew | apply keep_alloc | refine keep_far ?_ Bs.out _ | refine keep_far ?_ Br.out _ | refine keep_far ?_ Bq.out _) | exact HK.out)⟩, ⟨yw HB⟩⟩
     rw [if_neg C0] at H
     exact absurd H (by simp)
    replace C1 := Bool.eq_false_iff.mpr C1
    subst C1
    rw [if_neg (show ¬ (false = true) by decide)] at H
    replace H := Option.bind_eq_some_iff.mp H
    obtain ⟨⟨Cs, B0, Bz⟩, Cx, H⟩ := H
    replace H : (if Cs = true then (if Au.length < 2513169434916 then (spec_l03Acts.l0 k1 (Au ++ [(⟨Al, Ak, Aj, Ai⟩ : S55)]) (wrap64 (Be + 1)) s0_0 B0 Bz Ao) else (none)) else (spec_l03Acts.l0 k1 Au (wrap64 (Be + 1)) s0_0 B0 Bz Ad)) = some (r1, r2, r3) := H
    have Dc := Aside0.mk Cx
    clear Cx
    by_cases Cz : Cs = true
    ·subst Cz
     rw [if_pos rfl] at H
     by_cases Cy : Au.length < 2513169434916
     ·rw [if_pos Cy] at H
      have LMc34 := Aside0.mk Cy
      clear Cy
      obtain ⟨Co, B2⟩ : ∃ y_ : List (S55), y_ = (Au ++ [(⟨Al, Ak, Aj, Ai⟩ : S55)]) := ⟨_, rfl⟩
      replace H : (spec_l03Acts.l0 k1 Co (wrap64 (Be + 1)) s0_0 B0 Bz Ao) = some (r1, r2, r3) := zrw B2 H
      have Ny424 := Aside0.mk B2
      clear B2
      have H' := Aside0.mk H
      clear H
      go_wp2_with (first | ((with_reducible refine gate_callee (f := 56) rfl ?_); refine zG (some 13) Try.func56 #[.pointer (some ⟨g, 0, none⟩), .int .i64 9] ?_; (with_reducible refine (spec_l01Below.calls g s0_0 Ax Aw 9 B1 Bo Bn w0 _ ?side1 ?side2 A6.out).mono ?_); (case side1 => exact yF HI0); (case side2 => exact yw HB); rintro e w35 ⟨rfl, hi, hb, hk⟩; refine ⟨_, rfl, ?_⟩; replace Ag := Aside0.mk (Kd.R_mono (Kd.R_keep (IsS100.apart (show IsS100 w0 _ g s0_0 Ax Aw from yF HI0) (zo Ag.out) (by decide)) hk (fun _ h => h.2)) (fun _ h => h.1)); replace Aa := Aside0.mk (Kd.V_mono (Kd.V_keep (Kd.V_mono (ok := fun k_ => (((P1_0_ k_ ∨ w.heap.size ≤ k_)) ∧ (some k_ ≠ (u5 : Value).ownBlock ∧ (k_ ≠ Af ∧ k_ ≠ g)))) (by (with_reducible repeat (first | apply Kd.V_alloc | apply Kd.V_drewN | apply Kd.V_drew)); exact Aa.out) (fun k_ hk_ => (⟨hk_, hk_.2.2.2⟩ : _ ∧ k_ ≠ g))) hk (fun _ h => h.2)) (fun _ h => h.1)); replace Ac := Aside0.mk (KeepBut.blk hk (g' := Af) (o := .cells #[Ay] 29 (0, 0)) (zk Ac) Aq.out (by simp)); replace HK := zKt HK hk; replace HB := Aside0.mk (hb); replace HI0 := Aside0.mk (hi); clear hi hb hk) | ((with_reducible refine gate_callee (f := 86) rfl ?_); refine zG (some 18) Try.func86 #[.pointer (some ⟨g, 0, none⟩)] ?_; (with_reducible refine (spec_l03Act.calls k1 g s0_0 Bo Bn Al Ak Aj Ai As Ar w0 _ ?side1 ?side2 A8.out).mono ?_); (case side1 => exact yF HI0); (case side2 => exact yw HB); rintro e w36 ⟨rfl, hi, hb, hk⟩; refine ⟨_, rfl, ?_⟩; replace Ag := Aside0.mk (Kd.R_mono (Kd.R_keep (IsS100.apart (show IsS100 w0 _ g s0_0 Bo Bn from yF HI0) (zo Ag.out) (by decide)) hk (fun _ h => h.2)) (fun _ h => h.1)); replace Aa := Aside0.mk (Kd.V_mono (Kd.V_keep (Kd.V_mono (ok := fun k_ => (((P1_0_ k_ ∨ w.heap.size ≤ k_)) ∧ (some k_ ≠ (u5 : Value).ownBlock ∧ (k_ ≠ Af ∧ k_ ≠ g)))) (by (with_reducible repeat (first | apply Kd.V_alloc | apply Kd.V_drewN | apply Kd.V_drew)); exact Aa.out) (fun k_ hk_ => (⟨hk_, hk_.2.2.2⟩ : _ ∧ k_ ≠ g))) hk (fun _ h => h.2)) (fun _ h => h.1)); replace Ac := Aside0.mk (KeepBut.blk hk (g' := Af) (o := .cells #[Ay] 29 (0, 0)) (zk Ac) Aq.out (by simp)); replace HK := zKt HK hk; replace HB := Aside0.mk (hb); replace HI0 := Aside0.mk (hi); clear hi hb hk) | ((with_reducible refine gate_dst (N := 7) rfl ?_); refine zx (N := 7) (cs := #[.int .i64 0, .string (⟨#[]⟩ : ByteArray), .string (⟨#[]⟩ : ByteArray), .string (⟨#[]⟩ : ByteArray)]) (t := 55) ?_; intro Ab hg De hbox hb; replace Ag := Aside0.mk (Kd.R_below (Kd.R_elderB (zo Ag.out) Ab (Nat.le_of_eq hg.symm)) hb); replace Aa := Aside0.mk (Kd.V_below (Kd.V_elderB (by (with_reducible repeat (first | apply Kd.V_alloc | apply Kd.V_drewN | apply Kd.V_drew)); exact Aa.out) Ab (Nat.le_of_eq hg.symm)) hb); replace HB := ys HB hb; have Ah := Aside0.mk (hbox); have Br := Aside0.mk ((by rw [hg]; exact (zKs HK) : w.heap.size ≤ Ab)); have Ci := Aside0.mk ((Nat.le_trans HW0.out (by rw [hg]; exact (zKs HK) : w.heap.size ≤ Ab) : w0.heap.size ≤ Ab)); replace HK := zKt HK (KeepBut.of_below hb g none); have Bk := zl Ac hg; have Bi := zr Ac hg; replace Ac := zb Ac hb; have Bc := Aside0.mk ((by rw [hg]; exact Nat.ne_of_lt (IsS100.lt (show IsS100 w0 _ g s0_0 As Ar from yF HI0)) : g ≠ Ab)); have Bm := Aside0.mk ((by rw [hg]; exact Nat.ne_of_gt (IsS100.lt (show IsS100 w0 _ g s0_0 As Ar from yF HI0)) : Ab ≠ g)); replace HI0 := Aside0.mk (IsS100.below (yF HI0) hb); clear hb hbox hg; have hnb38 := Bi.out; have hnc38 := Bk.out; have hnb39 := Bm.out; have hnc39 := Bc.out; obtain ⟨_, _, _, _, _, _, _, _⟩ := zc4 Ah; have hnb41 := Aq.out; have hnc41 := Bd.out; obtain ⟨_, _⟩ := zc1 Ac; obtain ⟨Cv, Cj, C5⟩ := Kd.V_slice Aa.out; subst C5) | ((with_reducible refine gate_callee (f := 35) rfl ?_); refine zG (some 22) Try.func35 #[.agg #[.slice Cv Ad.length Cj], .agg #[.int .i64 Al, .string Ak, .string Aj, .string Ai]] ?_; (with_reducible refine (spec_DoAct.calls k1 _ _ Ad Al Ak Aj Ai Ao false _ ?side1 ?side2 A9.out).mono ?_); (case side1 => refine (Kd.V_reads' (e := 45) (base := w.heap.size) (ok := fun k_ => (((P1_0_ k_ ∨ w.heap.size ≤ k_) ∧ (some k_ ≠ (u5 : Value).ownBlock ∧ (k_ ≠ Af ∧ k_ ≠ g))) ∧ k_ ≠ Ab)) (n := Ad.length) (c := Cj) ?_).2.2; exact (by (with_reducible repeat (first | apply Kd.V_alloc | apply Kd.V_drewN | apply Kd.V_drew)); exact (Kd.V_mono (Kd.V_far (p := ⟨Ab, 3, none⟩) (Kd.V_far (p := ⟨Ab, 2, none⟩) (Kd.V_far (p := ⟨Ab, 1, none⟩) (Kd.V_far (p := ⟨Ab, 0, none⟩) (Kd.V_mono Aa.out (fun k_ hk => (⟨hk, hk.2⟩ : _ ∧ k_ ≠ Ab))) (fun _ hk => hk.2) (.int .i64 Al)) (fun _ hk => hk.2) (.string Ak)) (fun _ hk => hk.2) (.string Aj)) (fun _ hk => hk.2) (.string Ai)) (fun _ h_ => h_.1)))); (case side2 => exact (Kd.V_reads' Aa.out).2.1); rintro e w44 ⟨Cr, rfl, Cb, hb⟩; refine ⟨_, rfl, ?_⟩; replace Ag := Aside0.mk (Kd.R_below (zo ((Kd.R_mono (Kd.R_far (p := ⟨Ab, 3, none⟩) (Kd.R_far (p := ⟨Ab, 2, none⟩) (Kd.R_far (p := ⟨Ab, 1, none⟩) (Kd.R_far (p := ⟨Ab, 0, none⟩) (Kd.R_mono Ag.out (fun k_ hk => (⟨hk, hk.2⟩ : _ ∧ k_ ≠ Ab))) (fun _ hk => hk.2) (.int .i64 Al)) (fun _ hk => hk.2) (.string Ak)) (fun _ hk => hk.2) (.string Aj)) (fun _ hk => hk.2) (.string Ai)) (fun _ h_ => h_.1)))) hb); replace Aa := Aside0.mk (Kd.V_elder' (by (with_reducible repeat (first | apply Kd.V_alloc | apply Kd.V_drewN | apply Kd.V_drew)); exact (Kd.V_mono (Kd.V_far (p := ⟨Ab, 3, none⟩) (Kd.V_far (p := ⟨Ab, 2, none⟩) (Kd.V_far (p := ⟨Ab, 1, none⟩) (Kd.V_far (p := ⟨Ab, 0, none⟩) (Kd.V_mono Aa.out (fun k_ hk => (⟨hk, hk.2⟩ : _ ∧ k_ ≠ Ab))) (fun _ hk => hk.2) (.int .i64 Al)) (fun _ hk => hk.2) (.string Ak)) (fun _ hk => hk.2) (.string Aj)) (fun _ hk => hk.2) (.string Ai)) (fun _ h_ => h_.1))) (Kd.R_base Cb) hb); have Ap := Aside0.mk (Kd.R_lower (Kd.R_newM (M := fun k_ => (w.heap.size ≤ k_)) Cb (zKs HK) (fun k_ h_ => h_)) (zKs HK)); replace Ac := zbf Ac hb; replace Ah := Aside0.mk (blk_below (g := Ab) (o := .cells #[.int .i64 Al, .string Ak, .string Aj, .string Ai] 55 (0, 0)) (zj Ah) hb); replace HK := zKt HK (KeepBut.of_below hb g none); replace HB := ys HB hb; replace HI0 := Aside0.mk (IsS100.below (show IsS100 w0 ((((De.setCell ⟨Ab, 0, none⟩ (.int .i64 Al)).setCell ⟨Ab, 1, none⟩ (.string Ak)).setCell ⟨Ab, 2, none⟩ (.string Aj)).setCell ⟨Ab, 3, none⟩ (.string Ai)) g s0_0 As Ar from yF HI0) hb); clear Cb hb) | ((with_reducible refine gate_dst (N := 8) rfl ?_); refine zx (N := 8) (cs := #[.slice none 0 0]) (t := 29) ?_; intro Ae hg w45 hbox hb; replace Ag := zy Ag hb; replace Aa := Aside0.mk (Kd.V_below (Kd.V_elderB (by (with_reducible repeat (first | apply Kd.V_alloc | apply Kd.V_drewN | apply Kd.V_drew)); exact Aa.out) Ae (Nat.le_of_eq hg.symm)) hb); replace Ap := zy Ap hb; replace HB := ys HB hb; have Am := Aside0.mk (hbox); have Bq := Aside0.mk ((by rw [hg]; exact (zKs HK) : w.heap.size ≤ Ae)); have Ch := Aside0.mk ((Nat.le_trans HW0.out (by rw [hg]; exact (zKs HK) : w.heap.size ≤ Ae) : w0.heap.size ≤ Ae)); replace HK := zKt HK (KeepBut.of_below hb g none); have Bj := zl Ac hg; have Bg := zr Ac hg; replace Ac := zb Ac hb; have Bh := zl Ah hg; have Bf := zr Ah hg; replace Ah := zb Ah hb; have Bb := Aside0.mk ((by rw [hg]; exact Nat.ne_of_lt (IsS100.lt (show IsS100 w0 _ g s0_0 As Ar from yF HI0)) : g ≠ Ae)); have Bl := Aside0.mk ((by rw [hg]; exact Nat.ne_of_gt (IsS100.lt (show IsS100 w0 _ g s0_0 As Ar from yF HI0)) : Ae ≠ g)); replace HI0 := Aside0.mk (IsS100.below (yF HI0) hb); clear hb hbox hg; obtain ⟨Bv, Bt, C4⟩ := Kd.R_slice Ap.out; subst C4; have hnb47 := Bg.out; have hnc47 := Bj.out; have hnb48 := Bf.out; have hnc48 := Bh.out; have hnb49 := Bl.out; have hnc49 := Bb.out; obtain ⟨_, _⟩ := zc1 Am) | (go_at_call 87; (with_reducible refine (spec_l01Once.calls g s0_0 As Ar 20 true B0 Bz w0 _ ?side1 ?side2 Dc.out).mono ?_); (case side1 => exact yF HI0); (case side2 => exact yw HB); rintro e w51 ⟨rfl, hi, hb, hk⟩; replace Ag := Aside0.mk (Kd.R_mono (Kd.R_keep (IsS100.apart (show IsS100 w0 _ g s0_0 As Ar from yF HI0) (zo ((Kd.R_mono (Kd.R_far (p := ⟨Ae, 0, none⟩) (Kd.R_types Ag.out Am.out (by decide)) (fun _ hk => hk.2) (.slice Bv Ao.length Bt)) (fun _ h_ => h_.1)))) (by decide)) hk (fun _ h => h.2)) (fun _ h => h.1)); replace Aa := Aside0.mk (Kd.V_mono (Kd.V_keep (Kd.V_mono (ok := fun k_ => ((((((P1_0_ k_ ∨ w.heap.size ≤ k_)) ∧ (some k_ ≠ (u5 : Value).ownBlock ∧ (k_ ≠ Af ∧ k_ ≠ g))) ∧ k_ ≠ Ab) ∧ some k_ ≠ (.slice Bv Ao.length Bt : Value).ownBlock) ∧ k_ ≠ Ae)) (by (with_reducible repeat (first | apply Kd.V_alloc | apply Kd.V_drewN | apply Kd.V_drew)); exact (Kd.V_mono (Kd.V_far (p := ⟨Ae, 0, none⟩) (Kd.V_mono Aa.out (fun k_ hk => (⟨hk, hk.2⟩ : _ ∧ k_ ≠ Ae))) (fun _ hk => hk.2) (.slice Bv Ao.length Bt)) (fun _ h_ => h_.1))) (fun k_ hk_ => (⟨hk_, hk_.1.1.1.2.2.2⟩ : _ ∧ k_ ≠ g))) hk (fun _ h => h.2)) (fun _ h => h.1)); replace Ac := Aside0.mk (KeepBut.blk hk (g' := Af) (o := .cells #[.slice Cv Ad.length Cj] 29 (0, 0)) (zkf Ac) Aq.out (by simp)); replace Ah := Aside0.mk (KeepBut.blk hk (g' := Ab) (o := .cells #[.int .i64 Al, .string Ak, .string Aj, .string Ai] 55 (0, 0)) (zkf Ah) Bm.out (by simp)); replace Ap := Aside0.mk (Kd.R_mono (Kd.R_keep (IsS100.apart (show IsS100 w0 _ g s0_0 As Ar from yF HI0) (zo ((Kd.R_mono (Kd.R_far (p := ⟨Ae, 0, none⟩) (Kd.R_types Ap.out Am.out (by decide)) (fun _ hk => hk.2) (.slice Bv Ao.length Bt)) (fun _ h_ => h_.1)))) (by decide)) hk (fun _ h => h.2)) (fun _ h => h.1)); replace Am := Aside0.mk (KeepBut.blk hk (g' := Ae) (o := .cells #[.slice Bv Ao.length Bt] 29 (0, 0)) (zj Am) Bl.out (by simp)); replace HK := zKt HK hk; replace HB := Aside0.mk (hb); replace HI0 := Aside0.mk (hi); clear hi hb hk; obtain ⟨_, _, _, _, _, _, _, _⟩ := zc4 Ah) | ((with_reducible refine gate_builtin (b := .append) (xs := #[.tmp 30, .tmp 32]) rfl ?_); at_builtin; refine Kd.R_append k55 w.heap.size rfl (.tmp 30) (.tmp 32) 62 55 (.agg #[(.int .i64 0), (.string ⟨#[]⟩), (.string ⟨#[]⟩), (.string ⟨#[]⟩)]) 56 rfl Try.underlying62 info55 rfl (by decide) (by omega) u5 Au (⟨Al, Ak, Aj, Ai⟩ : S55) [.int .i64 Al, .string Ak, .string Aj, .string Ai] (fun k_ => (w.heap.size ≤ k_) ∧ k_ ≠ Ab) (fun _ => False) rfl rfl ?aP (fun _ hk => hk.elim) ?aF ?aO (Below.refl _ _) ?aS ?aL ?_; (case aP => exact k55_mkM _ _ _ (⟨Al, Ak, Aj, Ai⟩ : S55)); (case aF => exact (fun k_ hk => ⟨(Nat.le_trans (zKs HK) hk), Kd.freshB (g := Ab) (o := .cells #[.int .i64 Al, .string Ak, .string Aj, .string Ai] 55 (0, 0)) (zk Ah) k_ hk⟩)); (case aO => exact (zo Ag.out)); (case aS => exact (zKs HK)); (case aL => have := LMc34.out; omega); intro v425 w53 ho hb hg hat; rw [← Ny424.out] at ho; replace Aa := Aside0.mk (Kd.V_afterv (ok := (fun k_ => (P1_0_ k_ ∨ w.heap.size ≤ k_) ∧ some k_ ≠ (.slice Bv Ao.length Bt : Value).ownBlock ∧ k_ ≠ Af ∧ k_ ≠ g ∧ k_ ≠ Ab ∧ k_ ≠ Ae)) (by (with_reducible repeat (first | apply Kd.V_alloc | apply Kd.V_drewN | apply Kd.V_drew)); exact Kd.V_mono Aa.out (fun _ hk => ⟨⟨hk.1.1.1.1, ⟨hk.1.2, ⟨hk.1.1.1.2.2.1, ⟨hk.1.1.1.2.2.2, ⟨hk.1.1.2, hk.2⟩⟩⟩⟩⟩, hk.1.1.1.2.1⟩)) hg hat); replace Ac := zbg Ac hg Ag; replace Ah := Aside0.mk (blk_grown (g := Ab) (o := .cells #[.int .i64 Al, .string Ak, .string Aj, .string Ai] 55 (0, 0)) (zk Ah) hg (Kd.R_away Ag.out (fun _ hk => hk.2))); replace Ap := Aside0.mk (Kd.R_over' (zo Ap.out) (Kd.R_typed (zo Ag.out)) (by decide) hg); replace Am := zbg Am hg Ag; replace HB := Aside0.mk (below_weaken (yw HB) HL.out hb); replace HI0 := yG HI0 hg (IsS100.own_ne HI0.out Ag.out (by decide)); replace HK := Aside0.mk (KeepBut.trans (by repeat (first | (with_reducible first | exact HK.out | apply KeepBut.set_ | apply keep_drewN | apply keep_drew | apply keep_alloc | refine keep_far ?_ Bs.out _ | refine keep_far ?_ Br.out _ | refine keep_far ?_ Bq.out _) | exact HK.out)) (KeepBut.of_grown hg g) (Kd.R_base2 Ag.out)); have Cf := Aside0.mk (ho); clear Ag; clear ho hb hg hat; obtain ⟨_, _⟩ := zc1 Am; obtain ⟨_, _⟩ := zc1 Ac))
      go_roundg k1
      case measure => have := Cn.out; omega
      case rel => exact ⟨(Co), (wrap64 (Be + 1)), (B0), (Bz), (Ao), (.slice Bv Ao.length Bt), zf, H', ⟨by have := Cn.out; omega⟩, ⟨zo (Kd.R_mono (Kd.R_far (p := ⟨Af, 0, none⟩) (Kd.R_types Cf.out Ac.out (by decide)) (fun _ hk => hk.2) (.slice Bv Ao.length Bt)) (fun _ hk => hk.1.1))⟩, ⟨Kd.R_V (zo (Kd.R_mono (Kd.R_far (p := ⟨Af, 0, none⟩) (Kd.R_types (IsS100.apart HI0.out (Kd.R_types (Kd.R_apart' Ap.out (Kd.R_typed Cf.out) (by decide)) Ac.out (by decide)) (by decide)) Ac.out (by decide)) (fun _ hk => hk.2) (.slice Bv Ao.length Bt)) (fun _ hk => ⟨.inr hk.1.1.1.1.1, ⟨hk.1.1.1.2, ⟨hk.1.1.2, hk.1.2⟩⟩⟩)))⟩, ⟨zj Ac⟩, ⟨by repeat (first | (with_reducible first | exact HI0.out | apply IsS100.alloc | apply IsS100.drewN | apply IsS100.drew | apply IsS100.set_1 | apply IsS100.set_2 | refine IsS100.far ?_ Bd.out _ | refine IsS100.far ?_ Bc.out _ | refine IsS100.far ?_ Bb.out _) | exact HI0.out)⟩, ⟨by repeat (first | (with_reducible first | exact HK.out | apply KeepBut.set_ | apply keep_drewN | apply keep_drew | apply keep_alloc | refine keep_far ?_ Bs.out _ | refine keep_far ?_ Br.out _ | refine keep_far ?_ Bq.out _) | exact HK.out)⟩, ⟨yw HB⟩⟩
     rw [if_neg Cy] at H
     exact absurd H (by simp)
    replace Cz := Bool.eq_false_iff.mpr Cz
    subst Cz
    rw [if_neg (show ¬ (false = true) by decide)] at H
    have H' := Aside0.mk H
    clear H
    go_wp2_with (first | ((with_reducible refine gate_callee (f := 56) rfl ?_); refine zG (some 13) Try.func56 #[.pointer (some ⟨g, 0, none⟩), .int .i64 9] ?_; (with_reducible refine (spec_l01Below.calls g s0_0 Ax Aw 9 B1 Bo Bn w0 _ ?side1 ?side2 A6.out).mono ?_); (case side1 => exact yF HI0); (case side2 => exact yw HB); rintro e w56 ⟨rfl, hi, hb, hk⟩; refine ⟨_, rfl, ?_⟩; replace Ag := Aside0.mk (Kd.R_mono (Kd.R_keep (IsS100.apart (show IsS100 w0 _ g s0_0 Ax Aw from yF HI0) (zo Ag.out) (by decide)) hk (fun _ h => h.2)) (fun _ h => h.1)); replace Aa := Aside0.mk (Kd.V_mono (Kd.V_keep (Kd.V_mono (ok := fun k_ => (((P1_0_ k_ ∨ w.heap.size ≤ k_)) ∧ (some k_ ≠ (u5 : Value).ownBlock ∧ (k_ ≠ Af ∧ k_ ≠ g)))) (by (with_reducible repeat (first | apply Kd.V_alloc | apply Kd.V_drewN | apply Kd.V_drew)); exact Aa.out) (fun k_ hk_ => (⟨hk_, hk_.2.2.2⟩ : _ ∧ k_ ≠ g))) hk (fun _ h => h.2)) (fun _ h => h.1)); replace Ac := Aside0.mk (KeepBut.blk hk (g' := Af) (o := .cells #[Ay] 29 (0, 0)) (zk Ac) Aq.out (by simp)); replace HK := zKt HK hk; replace HB := Aside0.mk (hb); replace HI0 := Aside0.mk (hi); clear hi hb hk) | ((with_reducible refine gate_callee (f := 86) rfl ?_); refine zG (some 18) Try.func86 #[.pointer (some ⟨g, 0, none⟩)] ?_; (with_reducible refine (spec_l03Act.calls k1 g s0_0 Bo Bn Al Ak Aj Ai As Ar w0 _ ?side1 ?side2 A8.out).mono ?_); (case side1 => exact yF HI0); (case side2 => exact yw HB); rintro e w57 ⟨rfl, hi, hb, hk⟩; refine ⟨_, rfl, ?_⟩; replace Ag := Aside0.mk (Kd.R_mono (Kd.R_keep (IsS100.apart (show IsS100 w0 _ g s0_0 Bo Bn from yF HI0) (zo Ag.out) (by decide)) hk (fun _ h => h.2)) (fun _ h => h.1)); replace Aa := Aside0.mk (Kd.V_mono (Kd.V_keep (Kd.V_mono (ok := fun k_ => (((P1_0_ k_ ∨ w.heap.size ≤ k_)) ∧ (some k_ ≠ (u5 : Value).ownBlock ∧ (k_ ≠ Af ∧ k_ ≠ g)))) (by (with_reducible repeat (first | apply Kd.V_alloc | apply Kd.V_drewN | apply Kd.V_drew)); exact Aa.out) (fun k_ hk_ => (⟨hk_, hk_.2.2.2⟩ : _ ∧ k_ ≠ g))) hk (fun _ h => h.2)) (fun _ h => h.1)); replace Ac := Aside0.mk (KeepBut.blk hk (g' := Af) (o := .cells #[Ay] 29 (0, 0)) (zk Ac) Aq.out (by simp)); replace HK := zKt HK hk; replace HB := Aside0.mk (hb); replace HI0 := Aside0.mk (hi); clear hi hb hk) | ((with_reducible refine gate_dst (N := 7) rfl ?_); refine zx (N := 7) (cs := #[.int .i64 0, .string (⟨#[]⟩ : ByteArray), .string (⟨#[]⟩ : ByteArray), .string (⟨#[]⟩ : ByteArray)]) (t := 55) ?_; intro Ab hg Dd hbox hb; replace Ag := Aside0.mk (Kd.R_below (Kd.R_elderB (zo Ag.out) Ab (Nat.le_of_eq hg.symm)) hb); replace Aa := Aside0.mk (Kd.V_below (Kd.V_elderB (by (with_reducible repeat (first | apply Kd.V_alloc | apply Kd.V_drewN | apply Kd.V_drew)); exact Aa.out) Ab (Nat.le_of_eq hg.symm)) hb); replace HB := ys HB hb; have Ah := Aside0.mk (hbox); have Br := Aside0.mk ((by rw [hg]; exact (zKs HK) : w.heap.size ≤ Ab)); have Ci := Aside0.mk ((Nat.le_trans HW0.out (by rw [hg]; exact (zKs HK) : w.heap.size ≤ Ab) : w0.heap.size ≤ Ab)); replace HK := zKt HK (KeepBut.of_below hb g none); have Bk := zl Ac hg; have Bi := zr Ac hg; replace Ac := zb Ac hb; have Bc := Aside0.mk ((by rw [hg]; exact Nat.ne_of_lt (IsS100.lt (show IsS100 w0 _ g s0_0 As Ar from yF HI0)) : g ≠ Ab)); have Bm := Aside0.mk ((by rw [hg]; exact Nat.ne_of_gt (IsS100.lt (show IsS100 w0 _ g s0_0 As Ar from yF HI0)) : Ab ≠ g)); replace HI0 := Aside0.mk (IsS100.below (yF HI0) hb); clear hb hbox hg; have hnb59 := Bi.out; have hnc59 := Bk.out; have hnb60 := Bm.out; have hnc60 := Bc.out; obtain ⟨_, _, _, _, _, _, _, _⟩ := zc4 Ah; have hnb62 := Aq.out; have hnc62 := Bd.out; obtain ⟨_, _⟩ := zc1 Ac; obtain ⟨Cl, Ce, C3⟩ := Kd.V_slice Aa.out; subst C3) | ((with_reducible refine gate_callee (f := 35) rfl ?_); refine zG (some 22) Try.func35 #[.agg #[.slice Cl Ad.length Ce], .agg #[.int .i64 Al, .string Ak, .string Aj, .string Ai]] ?_; (with_reducible refine (spec_DoAct.calls k1 _ _ Ad Al Ak Aj Ai Ao false _ ?side1 ?side2 A9.out).mono ?_); (case side1 => refine (Kd.V_reads' (e := 45) (base := w.heap.size) (ok := fun k_ => (((P1_0_ k_ ∨ w.heap.size ≤ k_) ∧ (some k_ ≠ (u5 : Value).ownBlock ∧ (k_ ≠ Af ∧ k_ ≠ g))) ∧ k_ ≠ Ab)) (n := Ad.length) (c := Ce) ?_).2.2; exact (by (with_reducible repeat (first | apply Kd.V_alloc | apply Kd.V_drewN | apply Kd.V_drew)); exact (Kd.V_mono (Kd.V_far (p := ⟨Ab, 3, none⟩) (Kd.V_far (p := ⟨Ab, 2, none⟩) (Kd.V_far (p := ⟨Ab, 1, none⟩) (Kd.V_far (p := ⟨Ab, 0, none⟩) (Kd.V_mono Aa.out (fun k_ hk => (⟨hk, hk.2⟩ : _ ∧ k_ ≠ Ab))) (fun _ hk => hk.2) (.int .i64 Al)) (fun _ hk => hk.2) (.string Ak)) (fun _ hk => hk.2) (.string Aj)) (fun _ hk => hk.2) (.string Ai)) (fun _ h_ => h_.1)))); (case side2 => exact (Kd.V_reads' Aa.out).2.1); rintro e w65 ⟨Cr, rfl, Cb, hb⟩; refine ⟨_, rfl, ?_⟩; replace Ag := Aside0.mk (Kd.R_below (zo ((Kd.R_mono (Kd.R_far (p := ⟨Ab, 3, none⟩) (Kd.R_far (p := ⟨Ab, 2, none⟩) (Kd.R_far (p := ⟨Ab, 1, none⟩) (Kd.R_far (p := ⟨Ab, 0, none⟩) (Kd.R_mono Ag.out (fun k_ hk => (⟨hk, hk.2⟩ : _ ∧ k_ ≠ Ab))) (fun _ hk => hk.2) (.int .i64 Al)) (fun _ hk => hk.2) (.string Ak)) (fun _ hk => hk.2) (.string Aj)) (fun _ hk => hk.2) (.string Ai)) (fun _ h_ => h_.1)))) hb); replace Aa := Aside0.mk (Kd.V_elder' (by (with_reducible repeat (first | apply Kd.V_alloc | apply Kd.V_drewN | apply Kd.V_drew)); exact (Kd.V_mono (Kd.V_far (p := ⟨Ab, 3, none⟩) (Kd.V_far (p := ⟨Ab, 2, none⟩) (Kd.V_far (p := ⟨Ab, 1, none⟩) (Kd.V_far (p := ⟨Ab, 0, none⟩) (Kd.V_mono Aa.out (fun k_ hk => (⟨hk, hk.2⟩ : _ ∧ k_ ≠ Ab))) (fun _ hk => hk.2) (.int .i64 Al)) (fun _ hk => hk.2) (.string Ak)) (fun _ hk => hk.2) (.string Aj)) (fun _ hk => hk.2) (.string Ai)) (fun _ h_ => h_.1))) (Kd.R_base Cb) hb); have Ap := Aside0.mk (Kd.R_lower (Kd.R_newM (M := fun k_ => (w.heap.size ≤ k_)) Cb (zKs HK) (fun k_ h_ => h_)) (zKs HK)); replace Ac := zbf Ac hb; replace Ah := Aside0.mk (blk_below (g := Ab) (o := .cells #[.int .i64 Al, .string Ak, .string Aj, .string Ai] 55 (0, 0)) (zj Ah) hb); replace HK := zKt HK (KeepBut.of_below hb g none); replace HB := ys HB hb; replace HI0 := Aside0.mk (IsS100.below (show IsS100 w0 ((((Dd.setCell ⟨Ab, 0, none⟩ (.int .i64 Al)).setCell ⟨Ab, 1, none⟩ (.string Ak)).setCell ⟨Ab, 2, none⟩ (.string Aj)).setCell ⟨Ab, 3, none⟩ (.string Ai)) g s0_0 As Ar from yF HI0) hb); clear Cb hb) | ((with_reducible refine gate_dst (N := 8) rfl ?_); refine zx (N := 8) (cs := #[.slice none 0 0]) (t := 29) ?_; intro Ae hg w66 hbox hb; replace Ag := zy Ag hb; replace Aa := Aside0.mk (Kd.V_below (Kd.V_elderB (by (with_reducible repeat (first | apply Kd.V_alloc | apply Kd.V_drewN | apply Kd.V_drew)); exact Aa.out) Ae (Nat.le_of_eq hg.symm)) hb); replace Ap := zy Ap hb; replace HB := ys HB hb; have Am := Aside0.mk (hbox); have Bq := Aside0.mk ((by rw [hg]; exact (zKs HK) : w.heap.size ≤ Ae)); have Ch := Aside0.mk ((Nat.le_trans HW0.out (by rw [hg]; exact (zKs HK) : w.heap.size ≤ Ae) : w0.heap.size ≤ Ae)); replace HK := zKt HK (KeepBut.of_below hb g none); have Bj := zl Ac hg; have Bg := zr Ac hg; replace Ac := zb Ac hb; have Bh := zl Ah hg; have Bf := zr Ah hg; replace Ah := zb Ah hb; have Bb := Aside0.mk ((by rw [hg]; exact Nat.ne_of_lt (IsS100.lt (show IsS100 w0 _ g s0_0 As Ar from yF HI0)) : g ≠ Ae)); have Bl := Aside0.mk ((by rw [hg]; exact Nat.ne_of_gt (IsS100.lt (show IsS100 w0 _ g s0_0 As Ar from yF HI0)) : Ae ≠ g)); replace HI0 := Aside0.mk (IsS100.below (yF HI0) hb); clear hb hbox hg; obtain ⟨Cd, Cc, C2⟩ := Kd.R_slice Ap.out; subst C2; have hnb68 := Bg.out; have hnc68 := Bj.out; have hnb69 := Bf.out; have hnc69 := Bh.out; have hnb70 := Bl.out; have hnc70 := Bb.out; obtain ⟨_, _⟩ := zc1 Am) | (go_at_call 87; (with_reducible refine (spec_l01Once.calls g s0_0 As Ar 20 false B0 Bz w0 _ ?side1 ?side2 Dc.out).mono ?_); (case side1 => exact yF HI0); (case side2 => exact yw HB); rintro e w72 ⟨rfl, hi, hb, hk⟩; replace Ag := Aside0.mk (Kd.R_mono (Kd.R_keep (IsS100.apart (show IsS100 w0 _ g s0_0 As Ar from yF HI0) (zo ((Kd.R_mono (Kd.R_far (p := ⟨Ae, 0, none⟩) (Kd.R_types Ag.out Am.out (by decide)) (fun _ hk => hk.2) (.slice Cd Ao.length Cc)) (fun _ h_ => h_.1)))) (by decide)) hk (fun _ h => h.2)) (fun _ h => h.1)); replace Aa := Aside0.mk (Kd.V_mono (Kd.V_keep (Kd.V_mono (ok := fun k_ => ((((((P1_0_ k_ ∨ w.heap.size ≤ k_)) ∧ (some k_ ≠ (u5 : Value).ownBlock ∧ (k_ ≠ Af ∧ k_ ≠ g))) ∧ k_ ≠ Ab) ∧ some k_ ≠ (.slice Cd Ao.length Cc : Value).ownBlock) ∧ k_ ≠ Ae)) (by (with_reducible repeat (first | apply Kd.V_alloc | apply Kd.V_drewN | apply Kd.V_drew)); exact (Kd.V_mono (Kd.V_far (p := ⟨Ae, 0, none⟩) (Kd.V_mono Aa.out (fun k_ hk => (⟨hk, hk.2⟩ : _ ∧ k_ ≠ Ae))) (fun _ hk => hk.2) (.slice Cd Ao.length Cc)) (fun _ h_ => h_.1))) (fun k_ hk_ => (⟨hk_, hk_.1.1.1.2.2.2⟩ : _ ∧ k_ ≠ g))) hk (fun _ h => h.2)) (fun _ h => h.1)); replace Ac := Aside0.mk (KeepBut.blk hk (g' := Af) (o := .cells #[.slice Cl Ad.length Ce] 29 (0, 0)) (zkf Ac) Aq.out (by simp)); replace Ah := Aside0.mk (KeepBut.blk hk (g' := Ab) (o := .cells #[.int .i64 Al, .string Ak, .string Aj, .string Ai] 55 (0, 0)) (zkf Ah) Bm.out (by simp)); replace Ap := Aside0.mk (Kd.R_mono (Kd.R_keep (IsS100.apart (show IsS100 w0 _ g s0_0 As Ar from yF HI0) (zo ((Kd.R_mono (Kd.R_far (p := ⟨Ae, 0, none⟩) (Kd.R_types Ap.out Am.out (by decide)) (fun _ hk => hk.2) (.slice Cd Ao.length Cc)) (fun _ h_ => h_.1)))) (by decide)) hk (fun _ h => h.2)) (fun _ h => h.1)); replace Am := Aside0.mk (KeepBut.blk hk (g' := Ae) (o := .cells #[.slice Cd Ao.length Cc] 29 (0, 0)) (zj Am) Bl.out (by simp)); replace HK := zKt HK hk; replace HB := Aside0.mk (hb); replace HI0 := Aside0.mk (hi); clear hi hb hk))
    go_roundg k1
    case measure => have := Cn.out; omega
    case rel => exact ⟨(Au), (wrap64 (Be + 1)), (B0), (Bz), (Ad), (.slice Cl Ad.length Ce), zf, H', ⟨by have := Cn.out; omega⟩, ⟨zo (Kd.R_mono Ag.out (fun _ hk => hk.1))⟩, ⟨by (with_reducible repeat (first | apply Kd.V_alloc | apply Kd.V_drewN | apply Kd.V_drew)); exact Kd.V_mono Aa.out (fun _ hk => ⟨hk.1.1.1.1, ⟨hk.1.1.1.2.1, ⟨hk.1.1.1.2.2.1, hk.1.1.1.2.2.2⟩⟩⟩)⟩, ⟨zkf Ac⟩, ⟨by repeat (first | (with_reducible first | exact HI0.out | apply IsS100.alloc | apply IsS100.drewN | apply IsS100.drew | apply IsS100.set_1 | apply IsS100.set_2 | refine IsS100.far ?_ Bd.out _ | refine IsS100.far ?_ Bc.out _ | refine IsS100.far ?_ Bb.out _) | exact HI0.out)⟩, ⟨by repeat (first | (with_reducible first | exact HK.out | apply KeepBut.set_ | apply keep_drewN | apply keep_drew | apply keep_alloc | refine keep_far ?_ Bs.out _ | refine keep_far ?_ Br.out _ | refine keep_far ?_ Bq.out _) | exact HK.out)⟩, ⟨yw HB⟩⟩
   rw [if_neg c7] at H
   have C8 := decide_eq_false c7
   clear c7
   simp only [Option.some.injEq, Prod.mk.injEq] at H
   obtain ⟨rfl, rfl, rfl⟩ := H
   go_wp2_with (first | ((with_reducible refine gate_callee (f := 56) rfl ?_); refine zG (some 13) Try.func56 #[.pointer (some ⟨g, 0, none⟩), .int .i64 9] ?_; (with_reducible refine (spec_l01Below.calls g s0_0 Ax Aw 9 B1 Bo Bn w0 _ ?side1 ?side2 A6.out).mono ?_); (case side1 => exact yF HI0); (case side2 => exact yw HB); rintro e w73 ⟨rfl, hi, hb, hk⟩; refine ⟨_, rfl, ?_⟩; replace Ag := Aside0.mk (Kd.R_mono (Kd.R_keep (IsS100.apart (show IsS100 w0 _ g s0_0 Ax Aw from yF HI0) (zo Ag.out) (by decide)) hk (fun _ h => h.2)) (fun _ h => h.1)); replace Aa := Aside0.mk (Kd.V_mono (Kd.V_keep (Kd.V_mono (ok := fun k_ => (((P1_0_ k_ ∨ w.heap.size ≤ k_)) ∧ (some k_ ≠ (u5 : Value).ownBlock ∧ (k_ ≠ Af ∧ k_ ≠ g)))) (by (with_reducible repeat (first | apply Kd.V_alloc | apply Kd.V_drewN | apply Kd.V_drew)); exact Aa.out) (fun k_ hk_ => (⟨hk_, hk_.2.2.2⟩ : _ ∧ k_ ≠ g))) hk (fun _ h => h.2)) (fun _ h => h.1)); replace Ac := Aside0.mk (KeepBut.blk hk (g' := Af) (o := .cells #[Ay] 29 (0, 0)) (zk Ac) Aq.out (by simp)); replace HK := zKt HK hk; replace HB := Aside0.mk (hb); replace HI0 := Aside0.mk (hi); clear hi hb hk))
   go_ret
   exact ⟨_, ze, zo Ag.out, by repeat (first | (with_reducible first | exact HI0.out | apply IsS100.alloc | apply IsS100.drewN | apply IsS100.drew | apply IsS100.set_1 | apply IsS100.set_2 | refine IsS100.far ?_ Bd.out _) | exact HI0.out), yw HB, by repeat (first | (with_reducible first | exact HK.out | apply KeepBut.set_ | apply keep_drewN | apply keep_drew | apply keep_alloc | refine keep_far ?_ Bs.out _) | exact HK.out)⟩

/-! ### spec_l01Place: function 72 -/
def spec_l01Place.f (s0_0 : List Int) (s0_1 : Int) (s0_2 : Int) (a1 : Int) : Option (Int × Int × Int) := (spec_l01Once.f s0_0 s0_1 s0_2 15).bind fun bt427 => (if bt427.1 = true then ((spec_l01PickInt.f s0_0 bt427.2.1 bt427.2.2 (([(-1), a1, wrap64 (a1 + 1), 9223372036854775807, (-9223372036854775808)] : List Int))).bind fun bt433 => (some (bt433.1, bt433.2.1, bt433.2.2))) else ((spec_l01Below.f s0_0 bt427.2.1 bt427.2.2 a1).bind fun bt436 => (some (bt436.1, bt436.2.1, bt436.2.2))))
set_option maxHeartbeats 8000000 in
set_option maxRecDepth 100000 in
theorem spec_l01Place.calls (g : Nat) (s0_0 : List Int) (s0_1 : Int) (s0_2 : Int) (a1 : Int) (r1 : Int) (r2 : Int) (r3 : Int) (w0 w : World) (hI : IsS100 w0 w g s0_0 s0_1 s0_2) (hB : Below w0.heap.size w0 w) (h : spec_l01Place.f s0_0 s0_1 s0_2 a1 = some (r1, r2, r3)) :
  Calls Try.prog 72 #[.pointer (some ⟨g, 0, none⟩), .int .i64 a1] w fun e w' => e = .returned (.int .i64 r1) ∧ IsS100 w0 w' g s0_0 r2 r3 ∧ Below w0.heap.size w0 w' ∧ KeepBut w w' g none := by
 have HI0 := Aside0.mk hI
 have HK := Aside0.mk (KeepBut.refl w g none)
 have HL := Aside0.mk hB.size
 clear hI
 have HW0 := Aside0.mk hB.size
 have HB := Aside0.mk hB
 clear hB
 have H : ((spec_l01Once.f s0_0 s0_1 s0_2 15).bind fun Af => (if Af.1 = true then ((spec_l01PickInt.f s0_0 Af.2.1 Af.2.2 (([(-1), a1, wrap64 (a1 + 1), 9223372036854775807, (-9223372036854775808)] : List Int))).bind fun Aa => (some (Aa.1, Aa.2.1, Aa.2.2))) else ((spec_l01Below.f s0_0 Af.2.1 Af.2.2 a1).bind fun Ab => (some (Ab.1, Ab.2.1, Ab.2.2))))) = some (r1, r2, r3) := h
 clear h
 replace H := Option.bind_eq_some_iff.mp H
 obtain ⟨⟨Ap, Ae, Ad⟩, Au, H⟩ := H
 replace H : (if Ap = true then ((spec_l01PickInt.f s0_0 Ae Ad (([(-1), a1, wrap64 (a1 + 1), 9223372036854775807, (-9223372036854775808)] : List Int))).bind fun Aa => (some (Aa.1, Aa.2.1, Aa.2.2))) else ((spec_l01Below.f s0_0 Ae Ad a1).bind fun Ab => (some (Ab.1, Ab.2.1, Ab.2.2)))) = some (r1, r2, r3) := H
 have A3 := Aside0.mk Au
 clear Au
 by_cases c4 : Ap = true
 ·subst c4
  rw [if_pos rfl] at H
  obtain ⟨Ah, Ag⟩ : ∃ y_ : List Int, y_ = (([(-1), a1, wrap64 (a1 + 1), 9223372036854775807, (-9223372036854775808)] : List Int)) := ⟨_, rfl⟩
  replace H : ((spec_l01PickInt.f s0_0 Ae Ad Ah).bind fun Aa => (some (Aa.1, Aa.2.1, Aa.2.2))) = some (r1, r2, r3) := zrw Ag H
  have Ny430 := Aside0.mk Ag
  clear Ag
  replace H := Option.bind_eq_some_iff.mp H
  obtain ⟨⟨Ao, Am, Al⟩, As, H⟩ := H
  replace H : (some (Ao, Am, Al)) = some (r1, r2, r3) := H
  have A5 := Aside0.mk As
  clear As
  simp only [Option.some.injEq, Prod.mk.injEq] at H
  obtain ⟨rfl, rfl, rfl⟩ := H
  go_enter Try.func72, Try.ntmps72
  go_wp2_with (first | ((with_reducible refine gate_callee (f := 87) rfl ?_); refine zG (some 6) Try.func87 #[.pointer (some ⟨g, 0, none⟩), .int .i64 15] ?_; (with_reducible refine (spec_l01Once.calls g s0_0 s0_1 s0_2 15 true Ae Ad w0 _ ?side1 ?side2 A3.out).mono ?_); (case side1 => exact yI HI0); (case side2 => exact yw HB); rintro e w6 ⟨rfl, hi, hb, hk⟩; refine ⟨_, rfl, ?_⟩; replace HK := zKt HK hk; replace HB := Aside0.mk (hb); replace HI0 := Aside0.mk (hi); clear hi hb hk) | ((with_reducible refine gate_dst (N := 11) rfl ?_); refine Kd.R_lit (Kd.int .i64) _ 3 ?hg (N := 11) ?hd (xs := ([(-1), a1, wrap64 (a1 + 1), 9223372036854775807, (-9223372036854775808)] : List Int)) (inner := [.int .i64 (-1), .int .i64 a1, .int .i64 (wrap64 (a1 + 1)), .int .i64 9223372036854775807, .int .i64 (-9223372036854775808)]) (ok := fun _ => True) (okp := fun _ => True) ?hr ?hp (fun _ hk => hk) trivial (Below.refl _ _) (Nat.le_refl _) (by simp) ?_; (case hd => rfl); (case hg => rfl); (case hr => first | (go_simp; done) | (go_simp; rfl)); (case hp => exact (Reps.one (show Kd.M (Kd.int .i64) _ _ _ (-1) [.int .i64 (-1)] from rfl) (Reps.one (show Kd.M (Kd.int .i64) _ _ _ a1 [.int .i64 a1] from rfl) (Reps.one (show Kd.M (Kd.int .i64) _ _ _ (wrap64 (a1 + 1)) [.int .i64 (wrap64 (a1 + 1))] from rfl) (Reps.one (show Kd.M (Kd.int .i64) _ _ _ 9223372036854775807 [.int .i64 9223372036854775807] from rfl) (Reps.one (show Kd.M (Kd.int .i64) _ _ _ (-9223372036854775808) [.int .i64 (-9223372036854775808)] from rfl) (Reps.none _ _))))))); intro v431 w7 Aq hb hg_ hnew_; clear hg_ hnew_; (first | rw [← Ny430.out] at Aq | (simp only [Int.reduceToNat] at Aq; rw [← Ny430.out] at Aq)); have Ac := Aside0.mk (Kd.R_lower Aq (zKs HK)); replace HK := zKt HK (KeepBut.of_below hb g none); replace HB := ys HB hb; replace HI0 := Aside0.mk (IsS100.below (yI HI0) hb); clear hb Aq; obtain ⟨Ay, Ax, Aw⟩ := Kd.R_slice Ac.out; subst Aw) | ((with_reducible refine gate_callee (f := 83) rfl ?_); refine zG (some 12) Try.func83 #[.pointer (some ⟨g, 0, none⟩), .slice Ay Ah.length Ax] ?_; (with_reducible refine (spec_l01PickInt.calls g s0_0 Ae Ad _ _ Ah Ao Am Al w0 _ ?side1 ?side2 ?side3 ?side4 ?side5 A5.out).mono ?_); (case side1 => exact yI HI0); (case side2 => exact yw HB); (case side3 => exact zI (Kd.R_reads' Ac.out).2.2); (case side4 => exact (Kd.R_reads' Ac.out).2.1); (case side5 => exact far_slice (IsS100.own_ne HI0.out Ac.out (by decide))); rintro e w10 ⟨rfl, hi, hb, hk⟩; refine ⟨_, rfl, ?_⟩; replace Ac := Aside0.mk (Kd.R_mono (Kd.R_keep (IsS100.apart (show IsS100 w0 _ g s0_0 Ae Ad from yI HI0) (zo Ac.out) (by decide)) hk (fun _ h => h.2)) (fun _ h => h.1)); replace HK := zKt HK hk; replace HB := Aside0.mk (hb); replace HI0 := Aside0.mk (hi); clear hi hb hk))
  go_ret
  exact ⟨ze, yI HI0, yw HB, by repeat (first | (with_reducible first | exact HK.out | apply KeepBut.set_ | apply keep_drewN | apply keep_drew | apply keep_alloc) | exact HK.out)⟩
 replace c4 := Bool.eq_false_iff.mpr c4
 subst c4
 rw [if_neg (show ¬ (false = true) by decide)] at H
 replace H := Option.bind_eq_some_iff.mp H
 obtain ⟨⟨Ak, Aj, Ai⟩, Ar, H⟩ := H
 replace H : (some (Ak, Aj, Ai)) = some (r1, r2, r3) := H
 have Az := Aside0.mk Ar
 clear Ar
 simp only [Option.some.injEq, Prod.mk.injEq] at H
 obtain ⟨rfl, rfl, rfl⟩ := H
 go_enter Try.func72, Try.ntmps72
 go_wp2_with (first | ((with_reducible refine gate_callee (f := 87) rfl ?_); refine zG (some 6) Try.func87 #[.pointer (some ⟨g, 0, none⟩), .int .i64 15] ?_; (with_reducible refine (spec_l01Once.calls g s0_0 s0_1 s0_2 15 false Ae Ad w0 _ ?side1 ?side2 A3.out).mono ?_); (case side1 => exact yI HI0); (case side2 => exact yw HB); rintro e w12 ⟨rfl, hi, hb, hk⟩; refine ⟨_, rfl, ?_⟩; replace HK := zKt HK hk; replace HB := Aside0.mk (hb); replace HI0 := Aside0.mk (hi); clear hi hb hk) | ((with_reducible refine gate_callee (f := 56) rfl ?_); refine zG (some 15) Try.func56 #[.pointer (some ⟨g, 0, none⟩), .int .i64 a1] ?_; (with_reducible refine (spec_l01Below.calls g s0_0 Ae Ad a1 Ak Aj Ai w0 _ ?side1 ?side2 Az.out).mono ?_); (case side1 => exact yI HI0); (case side2 => exact yw HB); rintro e w13 ⟨rfl, hi, hb, hk⟩; refine ⟨_, rfl, ?_⟩; replace HK := zKt HK hk; replace HB := Aside0.mk (hb); replace HI0 := Aside0.mk (hi); clear hi hb hk))
 go_ret
 exact ⟨ze, yI HI0, yw HB, by repeat (first | (with_reducible first | exact HK.out | apply KeepBut.set_ | apply keep_drewN | apply keep_drew | apply keep_alloc) | exact HK.out)⟩

/-! ### spec_l03Left: function 73 -/
def spec_l03Left.l0 : Nat → List Int → Int → List Int → Int → Int → Option (List Int × Int × Int)
 | 0, _, _, _, _, _ => none
 | k + 1, x3, x4, x1000, x1001, x1002 => (spec_l01Below.f x1000 x1001 x1002 6).bind fun bt442 => (if x4 < bt442.1 then ((spec_l01PickInt.f x1000 bt442.2.1 bt442.2.2 (([0, 1, 2, 3, 5, 9, 40, 200, (-1), 9223372036854775807] : List Int))).bind fun bt448 => (if x3.length < 17592186044416 then (spec_l03Left.l0 k (x3 ++ [bt448.1]) (wrap64 (x4 + 1)) x1000 bt448.2.1 bt448.2.2) else (none))) else (some (x3, bt442.2.1, bt442.2.2)))
def spec_l03Left.f (k : Nat) (s0_0 : List Int) (s0_1 : Int) (s0_2 : Int) : Option (List Int × Int × Int) := spec_l03Left.l0 k (([] : List Int)) 0 s0_0 s0_1 s0_2
theorem spec_l03Left.mono_l : ∀ k, (∀ y0 y1 y2 y3 y4, LeO (spec_l03Left.l0 k y0 y1 y2 y3 y4) (spec_l03Left.l0 (k + 1) y0 y1 y2 y3 y4))
 | 0 => fun _ _ _ _ _ r h => by simp [spec_l03Left.l0] at h
 | k + 1 => by
  have ih0 := spec_l03Left.mono_l k
  intro y0 y1 y2 y3 y4
  unfold spec_l03Left.l0
  repeat' first
  | (with_reducible exact ih0 _ _ _ _ _)
  | (with_reducible exact LeO.refl _)
  | (with_reducible exact LeO.none _)
  | (with_reducible refine LeO.ite ?_ ?_)
  | (with_reducible refine LeO.bind ?_ (fun _ => ?_))
  | exact ih0 _ _ _ _ _
  | exact LeO.none _
  | refine LeO.ite ?_ ?_
  | refine LeO.bind ?_ (fun _ => ?_)
theorem spec_l03Left.mono : ∀ a0 a1 a2 k, LeO (spec_l03Left.f k a0 a1 a2) (spec_l03Left.f (k + 1) a0 a1 a2) := by
 intro a0 a1 a2 k
 have ih0 := spec_l03Left.mono_l k
 unfold spec_l03Left.f
 repeat' first
   | (with_reducible exact ih0 _ _ _ _ _)
   | (with_reducible exact LeO.refl _)
   | (with_reducible exact LeO.none _)
   | (with_reducible refine LeO.ite ?_ ?_)
   | (with_reducible refine LeO.bind ?_ (fun _ => ?_))
   | exact ih0 _ _ _ _ _
   | exact LeO.none _
   | refine LeO.ite ?_ ?_
   | refine LeO.bind ?_ (fun _ => ?_)
set_option maxHeartbeats 8000000 in
set_option maxRecDepth 100000 in
theorem spec_l03Left.calls (k : Nat) (g : Nat) (s0_0 : List Int) (s0_1 : Int) (s0_2 : Int) (r1 : List Int) (r2 : Int) (r3 : Int) (w0 w : World) (hI : IsS100 w0 w g s0_0 s0_1 s0_2) (hB : Below w0.heap.size w0 w) (h : spec_l03Left.f k s0_0 s0_1 s0_2 = some (r1, r2, r3)) :
  Calls Try.prog 73 #[.pointer (some ⟨g, 0, none⟩)] w fun e w' => ∃ v0_ : Value, e = .returned (v0_) ∧ Kd.R (Kd.int .i64) 3 w' w.heap.size (fun _ => True) v0_ r1 ∧ IsS100 w0 w' g s0_0 r2 r3 ∧ Below w0.heap.size w0 w' ∧ KeepBut w w' g none := by
 have HI0 := Aside0.mk hI
 have HK := Aside0.mk (KeepBut.refl w g none)
 have HL := Aside0.mk hB.size
 clear hI
 have HW0 := Aside0.mk hB.size
 have HB := Aside0.mk hB
 clear hB
 have H : (spec_l03Left.l0 k (([] : List Int)) 0 s0_0 s0_1 s0_2) = some (r1, r2, r3) := h
 clear h
 obtain ⟨Aw, Ao⟩ : ∃ y_ : List Int, y_ = (([] : List Int)) := ⟨_, rfl⟩
 replace H : (spec_l03Left.l0 k Aw 0 s0_0 s0_1 s0_2) = some (r1, r2, r3) := zrw Ao H
 have Ny439 := Aside0.mk Ao
 clear Ao
 have H' := Aside0.mk H
 clear H
 go_enter Try.func73, Try.ntmps73
 go_wp2_with (first | ((with_reducible refine gate_dst (N := 5) rfl ?_); refine Kd.R_lit (Kd.int .i64) _ 3 ?hg (N := 5) ?hd (xs := ([] : List Int)) (inner := []) (ok := fun _ => True) (okp := fun _ => True) ?hr ?hp (fun _ hk => hk) trivial (Below.refl _ _) (Nat.le_refl _) (by simp) ?_; (case hd => rfl); (case hg => rfl); (case hr => first | (go_simp; done) | (go_simp; rfl)); (case hp => exact (Reps.none _ _)); intro v440 w2 Ax hb hg_ hnew_; clear hg_ hnew_; (first | rw [← Ny439.out] at Ax | (simp only [Int.reduceToNat] at Ax; rw [← Ny439.out] at Ax)); have Ba := Aside0.mk (Kd.R_lower Ax (zKs HK)); replace HK := zKt HK (KeepBut.of_below hb g none); replace HB := ys HB hb; replace HI0 := Aside0.mk (IsS100.below (yI HI0) hb); clear hb Ax))
 go_loopg [3, 4] k (fun kq v3 v4 w' => ∃ (Ae : List Int) (Ag : Int) (Ab : Int) (Aa : Int), v4 = .int .i64 Ag ∧ Aside0 (spec_l03Left.l0 kq Ae Ag s0_0 Ab Aa = some (r1, r2, r3)) ∧ Aside0 (kq ≤ k) ∧ Aside0 (Kd.R (Kd.int .i64) 3 w' w.heap.size (fun _ => True) v3 Ae) ∧ Aside0 (IsS100 w0 w' g s0_0 Ab Aa) ∧ Aside0 (KeepBut w w' g none) ∧ Aside0 (Below w0.heap.size w0 w'))
 case atStart => exact ⟨(Aw), (0), (s0_1), (s0_2), zf, H', ⟨Nat.le_refl _⟩, ⟨zo Ba.out⟩, ⟨yI HI0⟩, ⟨by repeat (first | (with_reducible first | exact HK.out | apply KeepBut.set_ | apply keep_drewN | apply keep_drew | apply keep_alloc) | exact HK.out)⟩, ⟨yw HB⟩⟩
 case round =>
  clear H'
  try clear p2
  obtain ⟨Ae, Ag, Ab, Aa, rfl, HA, Be, Ac, HI0, HK, HB⟩ := hrel
  cases gk with
  | zero => exact absurd HA.out (by simp [spec_l03Left.l0])
  | succ k1 =>
   have H := HA.out
   clear HA
   simp only [spec_l03Left.l0] at H
   replace H := Option.bind_eq_some_iff.mp H
   obtain ⟨⟨As, Ai, Ah⟩, Bg, H⟩ := H
   replace H : (if Ag < As then ((spec_l01PickInt.f s0_0 Ai Ah (([0, 1, 2, 3, 5, 9, 40, 200, (-1), 9223372036854775807] : List Int))).bind fun Af => (if Ae.length < 17592186044416 then (spec_l03Left.l0 k1 (Ae ++ [Af.1]) (wrap64 (Ag + 1)) s0_0 Af.2.1 Af.2.2) else (none))) else (some (Ae, Ai, Ah))) = some (r1, r2, r3) := H
   have A4 := Aside0.mk Bg
   clear Bg
   by_cases c5 : Ag < As
   ·rw [if_pos c5] at H
    have Bd := decide_eq_true c5
    clear c5
    obtain ⟨Ap, Am⟩ : ∃ y_ : List Int, y_ = (([0, 1, 2, 3, 5, 9, 40, 200, (-1), 9223372036854775807] : List Int)) := ⟨_, rfl⟩
    replace H : ((spec_l01PickInt.f s0_0 Ai Ah Ap).bind fun Af => (if Ae.length < 17592186044416 then (spec_l03Left.l0 k1 (Ae ++ [Af.1]) (wrap64 (Ag + 1)) s0_0 Af.2.1 Af.2.2) else (none))) = some (r1, r2, r3) := zrw Am H
    have Ny445 := Aside0.mk Am
    clear Am
    replace H := Option.bind_eq_some_iff.mp H
    obtain ⟨⟨Ak, Ar, Aq⟩, Bf, H⟩ := H
    replace H : (if Ae.length < 17592186044416 then (spec_l03Left.l0 k1 (Ae ++ [Ak]) (wrap64 (Ag + 1)) s0_0 Ar Aq) else (none)) = some (r1, r2, r3) := H
    have A6 := Aside0.mk Bf
    clear Bf
    by_cases c7 : Ae.length < 17592186044416
    ·rw [if_pos c7] at H
     have LMc7 := Aside0.mk c7
     clear c7
     obtain ⟨Au, Al⟩ : ∃ y_ : List Int, y_ = (Ae ++ [Ak]) := ⟨_, rfl⟩
     replace H : (spec_l03Left.l0 k1 Au (wrap64 (Ag + 1)) s0_0 Ar Aq) = some (r1, r2, r3) := zrw Al H
     have Ny451 := Aside0.mk Al
     clear Al
     have H' := Aside0.mk H
     clear H
     go_wp2_with (first | ((with_reducible refine gate_callee (f := 56) rfl ?_); refine zG (some 8) Try.func56 #[.pointer (some ⟨g, 0, none⟩), .int .i64 6] ?_; (with_reducible refine (spec_l01Below.calls g s0_0 Ab Aa 6 As Ai Ah w0 _ ?side1 ?side2 A4.out).mono ?_); (case side1 => exact yI HI0); (case side2 => exact yw HB); rintro e w8 ⟨rfl, hi, hb, hk⟩; refine ⟨_, rfl, ?_⟩; replace Ac := Aside0.mk (Kd.R_mono (Kd.R_keep (IsS100.apart (show IsS100 w0 _ g s0_0 Ab Aa from yI HI0) (zo Ac.out) (by decide)) hk (fun _ h => h.2)) (fun _ h => h.1)); replace HK := zKt HK hk; replace HB := Aside0.mk (hb); replace HI0 := Aside0.mk (hi); clear hi hb hk) | ((with_reducible refine gate_dst (N := 14) rfl ?_); refine Kd.R_lit (Kd.int .i64) _ 3 ?hg (N := 14) ?hd (xs := ([0, 1, 2, 3, 5, 9, 40, 200, (-1), 9223372036854775807] : List Int)) (inner := [.int .i64 0, .int .i64 1, .int .i64 2, .int .i64 3, .int .i64 5, .int .i64 9, .int .i64 40, .int .i64 200, .int .i64 (-1), .int .i64 9223372036854775807]) (ok := fun _ => True) (okp := fun _ => True) ?hr ?hp (fun _ hk => hk) trivial (Below.refl _ _) (Nat.le_refl _) (by simp) ?_; (case hd => rfl); (case hg => rfl); (case hr => first | (go_simp; done) | (go_simp; rfl)); (case hp => exact (Reps.one (show Kd.M (Kd.int .i64) _ _ _ 0 [.int .i64 0] from rfl) (Reps.one (show Kd.M (Kd.int .i64) _ _ _ 1 [.int .i64 1] from rfl) (Reps.one (show Kd.M (Kd.int .i64) _ _ _ 2 [.int .i64 2] from rfl) (Reps.one (show Kd.M (Kd.int .i64) _ _ _ 3 [.int .i64 3] from rfl) (Reps.one (show Kd.M (Kd.int .i64) _ _ _ 5 [.int .i64 5] from rfl) (Reps.one (show Kd.M (Kd.int .i64) _ _ _ 9 [.int .i64 9] from rfl) (Reps.one (show Kd.M (Kd.int .i64) _ _ _ 40 [.int .i64 40] from rfl) (Reps.one (show Kd.M (Kd.int .i64) _ _ _ 200 [.int .i64 200] from rfl) (Reps.one (show Kd.M (Kd.int .i64) _ _ _ (-1) [.int .i64 (-1)] from rfl) (Reps.one (show Kd.M (Kd.int .i64) _ _ _ 9223372036854775807 [.int .i64 9223372036854775807] from rfl) (Reps.none _ _)))))))))))); intro v446 w9 Aj hb hg_ hnew_; clear hg_ hnew_; (first | rw [← Ny445.out] at Aj | (simp only [Int.reduceToNat] at Aj; rw [← Ny445.out] at Aj)); have Ad := Aside0.mk (Kd.R_lower (Kd.R_new' Aj (Kd.R_lt (zo Ac.out))) (zKs HK)); replace Ac := Aside0.mk (Kd.R_elder' (zo Ac.out) (Kd.R_base Aj) hb); replace HK := zKt HK (KeepBut.of_below hb g none); replace HB := ys HB hb; replace HI0 := Aside0.mk (IsS100.below (yI HI0) hb); clear hb Aj; obtain ⟨Bb, Ay, Bc⟩ := Kd.R_slice Ad.out; subst Bc) | ((with_reducible refine gate_callee (f := 83) rfl ?_); refine zG (some 15) Try.func83 #[.pointer (some ⟨g, 0, none⟩), .slice Bb Ap.length Ay] ?_; (with_reducible refine (spec_l01PickInt.calls g s0_0 Ai Ah _ _ Ap Ak Ar Aq w0 _ ?side1 ?side2 ?side3 ?side4 ?side5 A6.out).mono ?_); (case side1 => exact yI HI0); (case side2 => exact yw HB); (case side3 => exact zI (Kd.R_reads' Ad.out).2.2); (case side4 => exact (Kd.R_reads' Ad.out).2.1); (case side5 => exact far_slice (IsS100.own_ne HI0.out Ad.out (by decide))); rintro e w12 ⟨rfl, hi, hb, hk⟩; refine ⟨_, rfl, ?_⟩; replace Ac := Aside0.mk (Kd.R_mono (Kd.R_keep (IsS100.apart (show IsS100 w0 _ g s0_0 Ai Ah from yI HI0) (zo Ac.out) (by decide)) hk (fun _ h => h.2)) (fun _ h => h.1)); replace Ad := Aside0.mk (Kd.R_mono (Kd.R_keep (IsS100.apart (show IsS100 w0 _ g s0_0 Ai Ah from yI HI0) (zo Ad.out) (by decide)) hk (fun _ h => h.2)) (fun _ h => h.1)); replace HK := zKt HK hk; replace HB := Aside0.mk (hb); replace HI0 := Aside0.mk (hi); clear hi hb hk) | ((with_reducible refine gate_builtin (b := .append) (xs := #[.tmp 12, .tmp 16]) rfl ?_); at_builtin; refine Kd.R_append (Kd.int .i64) w.heap.size rfl (.tmp 12) (.tmp 16) 39 3 (.int .i64 0) 8 rfl Try.underlying39 info3 rfl (by decide) (by omega) u3 Ae Ak [.int .i64 Ak] (fun k_ => some k_ ≠ (.slice Bb Ap.length Ay : Value).ownBlock) (fun _ => False) rfl rfl ?aP (fun _ hk => hk.elim) ?aF ?aO (Below.refl _ _) ?aS ?aL ?_; (case aP => exact rfl); (case aF => exact (fun k_ hk => Kd.fresh' (Kd.R_lt (zo Ad.out)) k_ hk)); (case aO => exact (zo (Kd.R_mono Ac.out (fun _ hk => hk.2)))); (case aS => exact (zKs HK)); (case aL => have := LMc7.out; omega); intro v452 w13 ho hb hg hat; rw [← Ny451.out] at ho; replace Ad := Aside0.mk (Kd.R_after (ok := (fun _ => True)) (zo Ad.out) hg hat); replace HB := Aside0.mk (below_weaken (yw HB) HL.out hb); replace HI0 := Aside0.mk (IsS100.grown (yI HI0) hg (IsS100.own_ne HI0.out Ac.out (by decide))); replace HK := Aside0.mk (KeepBut.trans (by repeat (first | (with_reducible first | exact HK.out | apply KeepBut.set_ | apply keep_drewN | apply keep_drew | apply keep_alloc) | exact HK.out)) (KeepBut.of_grown hg g) (Kd.R_base2 Ac.out)); have Az := Aside0.mk (ho); clear Ac; clear ho hb hg hat))
     go_roundg k1
     case measure => have := Be.out; omega
     case rel => exact ⟨(Au), (wrap64 (Ag + 1)), (Ar), (Aq), zf, H', ⟨by have := Be.out; omega⟩, ⟨zo (Kd.R_mono Az.out (fun _ hk => trivial))⟩, ⟨yI HI0⟩, ⟨by repeat (first | (with_reducible first | exact HK.out | apply KeepBut.set_ | apply keep_drewN | apply keep_drew | apply keep_alloc) | exact HK.out)⟩, ⟨yw HB⟩⟩
    rw [if_neg c7] at H
    exact absurd H (by simp)
   rw [if_neg c5] at H
   have Bd := decide_eq_false c5
   clear c5
   simp only [Option.some.injEq, Prod.mk.injEq] at H
   obtain ⟨rfl, rfl, rfl⟩ := H
   go_wp2_with (first | ((with_reducible refine gate_callee (f := 56) rfl ?_); refine zG (some 8) Try.func56 #[.pointer (some ⟨g, 0, none⟩), .int .i64 6] ?_; (with_reducible refine (spec_l01Below.calls g s0_0 Ab Aa 6 As Ai Ah w0 _ ?side1 ?side2 A4.out).mono ?_); (case side1 => exact yI HI0); (case side2 => exact yw HB); rintro e w14 ⟨rfl, hi, hb, hk⟩; refine ⟨_, rfl, ?_⟩; replace Ac := Aside0.mk (Kd.R_mono (Kd.R_keep (IsS100.apart (show IsS100 w0 _ g s0_0 Ab Aa from yI HI0) (zo Ac.out) (by decide)) hk (fun _ h => h.2)) (fun _ h => h.1)); replace HK := zKt HK hk; replace HB := Aside0.mk (hb); replace HI0 := Aside0.mk (hi); clear hi hb hk))
   go_ret
   exact ⟨_, ze, zo Ac.out, yI HI0, yw HB, by repeat (first | (with_reducible first | exact HK.out | apply KeepBut.set_ | apply keep_drewN | apply keep_drew | apply keep_alloc) | exact HK.out)⟩

/-! ### spec_DrawCutActs: function 44 -/
def spec_DrawCutActs.f (k : Nat) (l0 : List Int) : Option ((List (S45)) × (List (S55)) × Int × List Int) := (spec_l01New.f k l0).bind fun bt455 => ((spec_l03Disk.f k bt455.1 bt455.2.1 bt455.2.2).bind fun bt459 => ((spec_l03Acts.f k bt455.1 bt459.2.1 bt459.2.2 bt459.1).bind fun bt465 => ((spec_l01Place.f bt455.1 bt465.2.1 bt465.2.2 (wrap64 ((bt465.1.length : Int) + 1))).bind fun bt470 => ((spec_l03Left.f k bt455.1 bt470.2.1 bt470.2.2).bind fun bt473 => (some (bt459.1, bt465.1, bt470.1, bt473.1))))))
theorem spec_DrawCutActs.mono : ∀ a0 k, LeO (spec_DrawCutActs.f k a0) (spec_DrawCutActs.f (k + 1) a0) := by
 intro a0 k
 unfold spec_DrawCutActs.f
 repeat' first
   | (with_reducible exact spec_l01New.mono _ _)
   | (with_reducible exact spec_l03Acts.mono _ _ _ _ _)
   | (with_reducible exact spec_l03Disk.mono _ _ _ _)
   | (with_reducible exact spec_l03Left.mono _ _ _ _)
   | (with_reducible exact LeO.refl _)
   | (with_reducible exact LeO.none _)
   | (with_reducible refine LeO.ite ?_ ?_)
   | (with_reducible refine LeO.bind ?_ (fun _ => ?_))
   | exact spec_l01New.mono _ _
   | exact spec_l03Acts.mono _ _ _ _ _
   | exact spec_l03Disk.mono _ _ _ _
   | exact spec_l03Left.mono _ _ _ _
   | exact LeO.none _
   | refine LeO.ite ?_ ?_
   | refine LeO.bind ?_ (fun _ => ?_)
def spec_DrawCutActs.T4 : Bool × List (List Nat × List Nat) := (true, [([], []), ([], []), ([], []), ([], []), ([3], [3]), ([4], [4]), ([2, 5], [2, 5]), ([], []), ([7, 6], [7]), ([0, 8, 0], [0]), ([1, 9, 0, 1, 9], [1]), ([6, 10, 0, 1, 2, 3, 4, 5, 6, 9, 10], [6]), ([8, 11, 0, 1, 2, 3, 4, 5, 6, 7, 8, 9, 10, 11], [8])])
def spec_DrawCutActs.B4 : List Nat := [0, 0, 0, 0, 8, 24, 60, 0, 252, 509, 1023, 2047, 4095]
theorem spec_DrawCutActs.tab4 : rtab .any (opsOf Try.f44 4) = spec_DrawCutActs.T4 := by kernel_rfl
theorem spec_DrawCutActs.bits4 : waitsOk spec_DrawCutActs.T4.2 spec_DrawCutActs.B4 = true := by kernel_rfl
abbrev q16_0 := #[o_,o_,o_,o_,o_,o_,o_,o_,o_,o_,o_,o_,o_]
abbrev q16_1 := #[o_,i_,o_,o_,o_,o_,o_,o_,o_,o_,o_,o_,o_]
abbrev q16_2 := #[o_,i_,i_,o_,o_,o_,o_,o_,o_,o_,o_,o_,o_]
abbrev q16_3 := #[o_,i_,i_,i_,o_,o_,o_,o_,o_,o_,o_,o_,o_]
abbrev q16_4 := #[o_,i_,i_,i_,i_,o_,o_,o_,o_,o_,o_,o_,o_]
abbrev q16_5 := #[o_,i_,i_,i_,i_,i_,o_,o_,o_,o_,o_,o_,o_]
abbrev q16_6 := #[o_,i_,i_,i_,i_,i_,o_,i_,o_,o_,o_,o_,o_]
abbrev q16_7 := #[i_,i_,i_,i_,i_,i_,o_,i_,o_,o_,o_,o_,o_]
abbrev q16_8 := #[i_,i_,i_,i_,i_,i_,i_,i_,o_,o_,o_,o_,o_]
abbrev q16_9 := #[i_,i_,i_,i_,i_,i_,i_,i_,i_,o_,o_,o_,o_]
abbrev q16_10 := #[i_,i_,i_,i_,i_,i_,i_,i_,i_,i_,o_,o_,o_]
abbrev q16_11 := #[i_,i_,i_,i_,i_,i_,i_,i_,i_,i_,i_,o_,o_]
abbrev q16_12 := #[i_,i_,i_,i_,i_,i_,i_,i_,i_,i_,i_,i_,o_]
abbrev q16_13 := #[i_,i_,i_,i_,i_,i_,i_,i_,i_,i_,i_,i_,i_]
set_option maxHeartbeats 8000000 in
set_option maxRecDepth 100000 in
theorem spec_DrawCutActs.calls (k : Nat) (A0 : Option Addr) (c0 : Nat) (l0 : List Int) (r1 : List (S45)) (r2 : List (S55)) (r3 : Int) (r4 : List Int) (w : World) (hr0 : Kd.C (Kd.int .u8) w A0 l0.length l0) (hc0 : l0.length ≤ c0) (h : spec_DrawCutActs.f k l0 = some (r1, r2, r3, r4)) :
  Calls Try.prog 44 #[.slice A0 l0.length c0] w fun e w' => ∃ v0_ v1_ v3_ : Value, e = .returned (.tuple #[.agg #[v0_], v1_, .int .i64 r3, v3_]) ∧ Kd.R k45 45 w' w.heap.size (fun _ => True) v0_ r1 ∧ Kd.R k55 55 w' w.heap.size (fun _ => True) v1_ r2 ∧ Kd.R (Kd.int .i64) 3 w' w.heap.size (fun _ => True) v3_ r4 ∧ Below w.heap.size w w' := by
 have hu29 := Try.underlying29
 have HR0 := Aside0.mk hr0
 have Bx := Aside0.mk hc0
 clear hr0 hc0
 have HB := Aside0.mk (Below.refl w.heap.size w)
 have H : ((spec_l01New.f k l0).bind fun As => ((spec_l03Disk.f k As.1 As.2.1 As.2.2).bind fun Ao => ((spec_l03Acts.f k As.1 Ao.2.1 Ao.2.2 Ao.1).bind fun Ah => ((spec_l01Place.f As.1 Ah.2.1 Ah.2.2 (wrap64 ((Ah.1.length : Int) + 1))).bind fun Ae => ((spec_l03Left.f k As.1 Ae.2.1 Ae.2.2).bind fun Am => (some (Ao.1, Ah.1, Ae.1, Am.1))))))) = some (r1, r2, r3, r4) := h
 clear h
 replace H := Option.bind_eq_some_iff.mp H
 obtain ⟨⟨Ad, Bh, Bg⟩, Bt, H⟩ := H
 replace H : ((spec_l03Disk.f k Ad Bh Bg).bind fun Ao => ((spec_l03Acts.f k Ad Ao.2.1 Ao.2.2 Ao.1).bind fun Ah => ((spec_l01Place.f Ad Ah.2.1 Ah.2.2 (wrap64 ((Ah.1.length : Int) + 1))).bind fun Ae => ((spec_l03Left.f k Ad Ae.2.1 Ae.2.2).bind fun Am => (some (Ao.1, Ah.1, Ae.1, Am.1)))))) = some (r1, r2, r3, r4) := H
 have A2 := Aside0.mk Bt
 clear Bt
 replace H := Option.bind_eq_some_iff.mp H
 obtain ⟨⟨Af, Ay, Ax⟩, Bs, H⟩ := H
 replace H : ((spec_l03Acts.f k Ad Ay Ax Af).bind fun Ah => ((spec_l01Place.f Ad Ah.2.1 Ah.2.2 (wrap64 ((Ah.1.length : Int) + 1))).bind fun Ae => ((spec_l03Left.f k Ad Ae.2.1 Ae.2.2).bind fun Am => (some (Af, Ah.1, Ae.1, Am.1))))) = some (r1, r2, r3, r4) := H
 have A3 := Aside0.mk Bs
 clear Bs
 replace H := Option.bind_eq_some_iff.mp H
 obtain ⟨⟨Aw, Bd, Bc⟩, Br, H⟩ := H
 replace H : ((spec_l01Place.f Ad Bd Bc (wrap64 ((Aw.length : Int) + 1))).bind fun Ae => ((spec_l03Left.f k Ad Ae.2.1 Ae.2.2).bind fun Am => (some (Af, Aw, Ae.1, Am.1)))) = some (r1, r2, r3, r4) := H
 have A4 := Aside0.mk Br
 clear Br
 replace H := Option.bind_eq_some_iff.mp H
 obtain ⟨⟨Bf, Bb, Ba⟩, Bq, H⟩ := H
 replace H : ((spec_l03Left.f k Ad Bb Ba).bind fun Am => (some (Af, Aw, Bf, Am.1))) = some (r1, r2, r3, r4) := H
 have A5 := Aside0.mk Bq
 clear Bq
 replace H := Option.bind_eq_some_iff.mp H
 obtain ⟨⟨Bj, Bn, Bm⟩, Bp, H⟩ := H
 replace H : (some (Af, Aw, Bf, Bj)) = some (r1, r2, r3, r4) := H
 have A6 := Aside0.mk Bp
 clear Bp
 simp only [Option.some.injEq, Prod.mk.injEq] at H
 obtain ⟨rfl, rfl, rfl, rfl⟩ := H
 go_enter Try.func44, Try.ntmps44
 try go_wp2_with (first | ((with_reducible refine gate_dst (N := 2) rfl ?_); refine zx (N := 2) (cs := #[.slice none 0 0]) (t := 29) ?_; intro Ag hg w7 hbox hb; have Aa := Aside0.mk (hbox); have GW454 := zg HB hg; have GE454 := zg HB hg; replace HB := zs HB hb; clear hb hbox hg) | ((with_reducible refine gate_callee (f := 55) rfl ?_); refine zG (some 10) Try.func55 #[.slice A0 l0.length c0] ?_; (with_reducible refine (spec_l01New.calls k _ _ l0 Ad Bh Bg w _ ?side1 ?side2 ?side3 A2.out).mono ?_); (case side1 => exact zw HB); (case side2 => exact HR0.out); (case side3 => exact Bx.out); rintro e w8 ⟨g458, rfl, hi, hb, hb2⟩; refine ⟨_, rfl, ?_⟩; replace HB := Aside0.mk (hb); have HI458 := Aside0.mk (hi); have NB458_454 := Aside0.mk (IsS100.ne_blk hi (blk_below (g := Ag) (o := .cells #[.slice none 0 0] 29 (0, 0)) (zk Aa) hb2) (by decide)); have Aj := Aside0.mk (Ne.symm (IsS100.ne_blk hi (blk_below (g := Ag) (o := .cells #[.slice none 0 0] 29 (0, 0)) (zk Aa) hb2) (by decide))); replace Aa := Aside0.mk (blk_below (g := Ag) (o := .cells #[.slice none 0 0] 29 (0, 0)) (zk Aa) hb2); clear hi hb hb2) | ((with_reducible refine gate_callee (f := 70) rfl ?_); refine zG (some 12) Try.func70 #[.pointer (some ⟨g458, 0, none⟩)] ?_; (with_reducible refine (spec_l03Disk.calls k g458 Ad Bh Bg Af Ay Ax w _ ?side1 ?side2 A3.out).mono ?_); (case side1 => exact yF HI458); (case side2 => exact yw HB); rintro e w9 ⟨v460, rfl, Be, hi, hb, hk⟩; refine ⟨_, rfl, ?_⟩; replace Aa := Aside0.mk (KeepBut.blk hk (g' := Ag) (o := .cells #[.slice none 0 0] 29 (0, 0)) (zk Aa) Aj.out (by simp)); have Ac := Aside0.mk (Kd.R_lower Be (below_size (yw HB))); replace HB := Aside0.mk (hb); replace HI458 := Aside0.mk (hi); clear Be hi hb hk) | ((with_reducible refine gate_dst (N := 7) rfl ?_); refine zx (N := 7) (cs := #[.slice none 0 0]) (t := 29) ?_; intro Ak hg Bw hbox hb; replace Ac := zy Ac hb; have Ab := Aside0.mk (hbox); have GW464 := yg HB hg; have GE464 := yg HB hg; replace HB := ys HB hb; have Au := zl Aa hg; have Ar := zr Aa hg; replace Aa := zb Aa hb; have Az := Aside0.mk ((by rw [hg]; exact Nat.ne_of_lt (IsS100.lt (show IsS100 w _ g458 Ad Ay Ax from yF HI458)) : g458 ≠ Ak)); have Ai := Aside0.mk ((by rw [hg]; exact Nat.ne_of_gt (IsS100.lt (show IsS100 w _ g458 Ad Ay Ax from yF HI458)) : Ak ≠ g458)); replace HI458 := Aside0.mk (IsS100.below (yF HI458) hb); clear hb hbox hg; obtain ⟨Aq, Al, Bo⟩ := Kd.R_slice Ac.out; subst Bo; have hnb12 := Ar.out; have hnc12 := Au.out; have hnb13 := Ai.out; have hnc13 := Az.out; obtain ⟨_, _⟩ := zc1 Ab) | ((with_reducible refine gate_store (t := 29) (p := 7) rfl ?_); refine store_event (t := 29) (p := 7) (v := ?vo_w15) (w1 := (Bw.setCell ⟨Ak, 0, none⟩ (.slice Aq Af.length Al))) ?hg ?ho ?hn ?hr ?_; (case ho => rfl); (case hg => rfl); (case hn => rfl); (case hr => first | (go_simp; done) | (go_simp; rfl)); intro Bi hw; have n0_ : Aside0 (Kd.R k45 45 Bi w.heap.size (fun _ => True) (.slice Aq Af.length Al) Af) := ⟨(by rw [hw]; exact (zo (Kd.R_mono (Kd.R_far (p := ⟨Ak, 0, none⟩) (Kd.R_types Ac.out Ab.out (by decide)) (fun _ hk => hk.2) (.slice Aq Af.length Al)) (fun _ hk => trivial))))⟩; have n1_ : Aside0 (Bi.heap[Ag]? = some (.cells #[.slice none 0 0] 29 (0, 0))) := ⟨(by rw [hw]; exact (zkf Aa))⟩; have n2_ : Aside0 (Bi.heap[Ak]? = some (.cells #[.slice Aq Af.length Al] 29 (0, 0))) := ⟨(by rw [hw]; exact (zj Ab))⟩; have n3_ : Aside0 (IsS100 w Bi g458 Ad Ay Ax) := ⟨(by rw [hw]; exact (yF HI458))⟩; have n4_ : Aside0 (Below w.heap.size w Bi) := ⟨(by rw [hw]; exact (yw HB))⟩; clear hw; clear Ac; clear Aa; clear Ab; clear HI458; clear HB; have Ac := n0_; have Aa := n1_; have Ab := n2_; have HI458 := n3_; have HB := n4_; clear n0_ n1_ n2_ n3_ n4_; obtain ⟨_, _⟩ := zc1 Ab) | ((with_reducible refine gate_callee (f := 71) rfl ?_); refine zG (some 15) Try.func71 #[.pointer (some ⟨g458, 0, none⟩), .agg #[.slice Aq Af.length Al]] ?_; (with_reducible refine (spec_l03Acts.calls k g458 Ad Ay Ax (fun k_ => some k_ = (.slice Aq Af.length Al : Value).ownBlock) _ _ Af Aw Bd Bc w _ ?side1 ?side2 ?side3 A4.out).mono ?_); (case side1 => exact yF HI458); (case side2 => exact yw HB); (case side3 => exact Kd.V_mono (Kd.R_V (Kd.R_tight rfl (IsS100.apart HI458.out (Kd.R_types (Kd.R_types (Ac.out) Aa.out (by decide)) Ab.out (by decide)) (by decide)))) (fun k_ hk_ => ⟨hk_, ((IsS100.apart HI458.out (Kd.R_types (Kd.R_types (Ac.out) Aa.out (by decide)) Ab.out (by decide)) (by decide)).1 k_ hk_.symm).2⟩)); rintro e Bv ⟨v466, rfl, Be, hi, hb, hk⟩; refine ⟨_, rfl, ?_⟩; replace Aa := Aside0.mk (KeepBut.blk hk (g' := Ag) (o := .cells #[.slice none 0 0] 29 (0, 0)) (zk Aa) Aj.out (by simp)); replace Ac := Aside0.mk (Kd.R_mono (Kd.R_keep (IsS100.apart (show IsS100 w _ g458 Ad Ay Ax from yF HI458) (zo Ac.out) (by decide)) hk (fun _ h => h.2)) (fun _ h => h.1)); replace Ab := Aside0.mk (KeepBut.blk hk (g' := Ak) (o := .cells #[.slice Aq Af.length Al] 29 (0, 0)) (zk Ab) Ai.out (by simp)); have Ap := Aside0.mk (Kd.R_lower (Kd.R_mono (ok' := fun k_ => True) Be (fun _ hk_ => trivial)) (below_size (yw HB))); replace HB := Aside0.mk (hb); replace HI458 := Aside0.mk (hi); clear Be hi hb hk))
 replace Ac := zd3 Ac
 replace Ap := zd3 Ap
 replace Aa := zd1 Aa
 replace Ab := zd1 Ab
 replace HI458 := Aside0.mk (IsS100.drew HI458.out)
 replace HB := zd2 HB
 obtain ⟨Ao19, co19, Bk⟩ := Kd.R_slice Ap.out
 (first | subst Bk | (injection Bk with f1_ f2_ f3_; have f4_ := f1_.symm; have f5_ := f3_.symm; clear f1_ f2_ f3_; subst f4_; subst f5_))
 refine start_ (n := 13) (S := fun w' => w'.cell? ⟨Ak, 0, none⟩ = some (.slice Aq Af.length Al)) (ds := []) q16_0 (by kernel_rfl) rfl rfl (zv Ab) (fun hHeld => ?_); refine with_tabW spec_DrawCutActs.tab4 spec_DrawCutActs.bits4 (fun HT_ HW_ => ?_)
 generalize Bv.drew = w18 at Ac Ap Aa Ab HI458 HB hHeld ⊢
 refine zP 1 (some 17) q16_1 HT_ ?_
 refine zP 2 (some 18) q16_2 HT_ ?_
 refine zP 3 (some 19) q16_3 HT_ ?_
 refine zP 4 (some 20) q16_4 HT_ ?_
 refine zP 5 (some 21) q16_5 HT_ ?_
 refine zP 7 (some 23) q16_6 HT_ ?_
 refine zT 0 (some 16) q16_7 HT_ HW_ hHeld ?_
 refine one_ (i := 6) (N := some 22) q16_8 rfl rfl (one_of HT_.out (by kernel_rfl)) (by decide) (fun K hK => ?_)
 refine zH Try.func72 #[.pointer (some ⟨g458, 0, none⟩), .int .i64 (wrap64 ((Aw.length : Int) + 1))] ?_
 with_reducible refine (spec_l01Place.calls g458 Ad Bd Bc (wrap64 ((Aw.length : Int) + 1)) Bf Bb Ba w _ ?side1 ?side2 A5.out).mono ?_
 (case side1 => exact yF HI458)
 (case side2 => exact yw HB)
 rintro e w20 ⟨rfl, hi, hb, hk⟩
 refine ⟨_, rfl, ?_⟩
 replace Aa := Aside0.mk (KeepBut.blk hk (g' := Ag) (o := .cells #[.slice none 0 0] 29 (0, 0)) (zk Aa) Aj.out (by simp))
 replace Ac := Aside0.mk (Kd.R_mono (Kd.R_keep (IsS100.apart (show IsS100 w _ g458 Ad Bd Bc from yF HI458) (zo Ac.out) (by decide)) hk (fun _ h => h.2)) (fun _ h => h.1))
 replace Ab := Aside0.mk (KeepBut.blk hk (g' := Ak) (o := .cells #[.slice Aq Af.length Al] 29 (0, 0)) (zk Ab) Ai.out (by simp))
 replace Ap := Aside0.mk (Kd.R_mono (Kd.R_keep (IsS100.apart (show IsS100 w _ g458 Ad Bd Bc from yF HI458) (zo Ap.out) (by decide)) hk (fun _ h => h.2)) (fun _ h => h.1))
 replace HB := Aside0.mk (hb)
 replace HI458 := Aside0.mk (hi)
 (try clear hb)
 (try clear hb2)
 (try clear hk)
 (try clear hi)
 refine hK.out _ _ (zv Ab) (fun hHeld => ?_)
 clear hK K
 refine zN ?_
 refine one_ (i := 8) (N := some 24) q16_9 rfl rfl (one_of HT_.out (by kernel_rfl)) (by decide) (fun K hK => ?_)
 refine zH Try.func73 #[.pointer (some ⟨g458, 0, none⟩)] ?_
 with_reducible refine (spec_l03Left.calls k g458 Ad Bb Ba Bj Bn Bm w _ ?side1 ?side2 A6.out).mono ?_
 (case side1 => exact yF HI458)
 (case side2 => exact yw HB)
 rintro e Bu ⟨v474, rfl, Be, hi, hb, hk⟩
 refine ⟨_, rfl, ?_⟩
 replace Aa := Aside0.mk (KeepBut.blk hk (g' := Ag) (o := .cells #[.slice none 0 0] 29 (0, 0)) (zk Aa) Aj.out (by simp))
 replace Ac := Aside0.mk (Kd.R_mono (Kd.R_keep (IsS100.apart (show IsS100 w _ g458 Ad Bb Ba from yF HI458) (zo Ac.out) (by decide)) hk (fun _ h => h.2)) (fun _ h => h.1))
 replace Ab := Aside0.mk (KeepBut.blk hk (g' := Ak) (o := .cells #[.slice Aq Af.length Al] 29 (0, 0)) (zk Ab) Ai.out (by simp))
 replace Ap := Aside0.mk (Kd.R_mono (Kd.R_keep (IsS100.apart (show IsS100 w _ g458 Ad Bb Ba from yF HI458) (zo Ap.out) (by decide)) hk (fun _ h => h.2)) (fun _ h => h.1))
 have Bl := Aside0.mk (Kd.R_lower Be (below_size (yw HB)))
 replace HB := Aside0.mk (hb)
 replace HI458 := Aside0.mk (hi)
 (try clear hb)
 (try clear hb2)
 (try clear hk)
 (try clear hi)
 (try clear Be)
 refine hK.out _ _ (zv Ab) (fun hHeld => ?_)
 clear hK K
 refine zN ?_
 refine one_ (i := 9) (N := none) q16_10 rfl rfl (one_of HT_.out (by kernel_rfl)) (by decide) (fun K hK => ?_)
 have hs22 : Bu.cell? ⟨Ag, 0, none⟩ = some (.slice none 0 0) := zv Aa
 have hfs22 := blk_frozen Aa.out 0
 have hns22_1 := Ar.out
 have hms22_1 := Au.out
 refine skip_ (w1 := ?_) (by rfl) rfl ?_ ?_
 rotate_left
 ·go_simp
  rfl
 refine hK.out _ _ (((cell_far (p := ⟨Ag, _, none⟩) Ar.out _).trans (hHeld))) (fun hHeld => ?_)
 clear hK K
 refine zP 10 (some 3) q16_11 HT_ ?_
 refine zP 11 (some 4) q16_12 HT_ ?_
 refine zP 12 (some 5) q16_13 HT_ ?_
 refine done_ (done_of HT_.out (by kernel_rfl)) ?_
 try go_wp2
 refine bodyPost_ret (results_list (rs := [.cell 2 29, .tmp 3, .tmp 4, .tmp 5]) rfl (by simp) (.cell Ag 29 #[.slice Aq Af.length Al] (0, 0) _ rfl (zj Aa) Try.underlying29 rfl (by kernel_rfl) (.tmp (.tmp (.tmp .nil))))) rfl ?_
 exact ⟨_, _, _, ze, zo (Kd.R_mono (Kd.R_far (p := ⟨Ag, 0, none⟩) (Kd.R_types Ac.out Aa.out (by decide)) (fun _ hk => hk.2) (.slice Aq Af.length Al)) (fun _ hk => trivial)), zo (Kd.R_mono (Kd.R_far (p := ⟨Ag, 0, none⟩) (Kd.R_types Ap.out Aa.out (by decide)) (fun _ hk => hk.2) (.slice Aq Af.length Al)) (fun _ hk => trivial)), zo (Kd.R_mono (Kd.R_far (p := ⟨Ag, 0, none⟩) (Kd.R_types Bl.out Aa.out (by decide)) (fun _ hk => hk.2) (.slice Aq Af.length Al)) (fun _ hk => trivial)), yw HB⟩

end Go.Proofs.Ytdiecogmaiglaaa.PFnActs
