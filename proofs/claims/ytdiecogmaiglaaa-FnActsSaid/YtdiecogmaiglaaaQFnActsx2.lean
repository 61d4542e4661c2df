import Derived.Test.YtdiecogmaiglaaaQFnActsx0
import Derived.Test.YtdiecogmaiglaaaQFnActsx1
namespace Go.Proofs.Ytdiecogmaiglaaa.PFnActs
open Go.RowKit Go.Proofs.YtdiecogmaiglaaaW.PrintWords Go.Proofs.YtdiecogmaiglaaaW.PrintLast Go.Proofs.YtdiecogmaiglaaaW.PrintMore
attribute [local go_sem] max2_int min2_int max_two min_two max_three min_three max_four min_four   -- for this text's walks alone
set_option linter.unusedVariables false
set_option linter.unusedSimpArgs false

attribute [local go_sem high] eqA45
/-! ### impl_placeOf: function 54, given by hand -/
namespace impl_placeOf
/-- the place of the first file of a name, counted from i; -1 without one -/
def find (a : ByteArray) : List S45 → Int → Int
 | [], _ => -1
 | x :: r, i => if x.f0.toList = a.toList then i else find a r (i + 1)
theorem closure (B : Nat) (x : S45) (a : ByteArray) (w : World) (hB : B < w.heap.size) (hc : w.cell? ⟨B, 0, none⟩ = some (.string a)) :
  Calls Try.prog 78 #[.agg #[.string x.f0, .string x.f1, .int .i64 x.f2], .pointer (some ⟨B, 0, none⟩)] w fun e w' => e = .returned (.bool (x.f0.toList == a.toList)) ∧ Below w.heap.size w w' := by
 have hne : B ≠ w.heap.size := by omega
 go_enter Try.func78, Try.ntmps78
 go_wp2
 all_goals (go_ret; exact ⟨by first | rfl | simp_all, (Below.refl _ w).alloc (Nat.le_refl _) _⟩)
set_option maxHeartbeats 8000000 in
set_option maxRecDepth 100000 in
theorem index (A : Option Addr) (c : Nat) (l : List S45) (a : ByteArray) (B : Nat) (w : World) (hr : Kd.C k45 w A l.length l) (hB : B < w.heap.size) (hc : w.cell? ⟨B, 0, none⟩ = some (.string a)) :
  Calls Try.prog 77 #[.slice A l.length c, .func (.func 78) #[] #[.pointer (some ⟨B, 0, none⟩)]] w fun e w' => e = .returned (.int .i64 (find a l 0)) ∧ Below w.heap.size w w' := by
 have eg : ∀ args w, (callFunc 78 args).run Try.prog w = .ok (.enter 78 args) w := enters_of Try.func78 (by kernel_rfl) rfl
 have hmax : l.length ≤ 9223372036854775807 := hr.2.1
 have HR := Aside0.mk hr
 have HCL := Aside0.mk (fun (x : S45) (W : World) (hb : Below w.heap.size w W) => closure B x a W (Nat.lt_of_lt_of_le hB hb.size) ((hb.cell (p := ⟨B, 0, none⟩) hB).trans hc))
 clear hr hc
 go_enter Try.func77, Try.ntmps77
 go_wp2
 go_loopg [5, 8] l.length (fun gg _ s8 wr => ∃ i : Int, 0 ≤ i ∧ i ≤ l.length ∧ l.length - i.toNat ≤ gg ∧ s8 = .int .i64 i ∧ Aside0 (Below w.heap.size w wr) ∧ Aside0 (find a l 0 = find a (l.drop i.toNat) i))
 case atStart => exact ⟨0, Int.le_refl _, by omega, by omega, rfl, ⟨Below.refl _ w⟩, ⟨rfl⟩⟩
 case round =>
  obtain ⟨i, hi0, hi1, hg, rfl, HB, HF⟩ := hrel
  by_cases hlt : i < (l.length : Int)
  ·obtain ⟨ad, ea, hx0, hx1, hx2⟩ := at_T45 HR.out i hi0 hlt
   cases ea
   replace hx0 := zU HB.out hx0
   replace hx1 := zU HB.out hx1
   replace hx2 := zU HB.out hx2
   have HD := Aside0.mk (show l.drop i.toNat = rd_T45 l i :: l.drop (i.toNat + 1) by
    have hl : i.toNat < l.length := by omega
    rw [List.drop_eq_getElem_cons hl]
    congr 1
    unfold rd_T45
    rw [List.getD_eq_getElem?_getD, List.getElem?_eq_getElem hl]; rfl)
   generalize rd_T45 l i = x at hx0 hx1 hx2 HD
   have HK := Aside0.mk (HCL.out x wr HB.out)
   have hlt' : decide (i < (l.length : Int)) = true := decide_eq_true hlt
   have h0' : decide (0 ≤ i) = true := decide_eq_true hi0
   by_cases hq : x.f0.toList = a.toList
   ·have e1 : find a l 0 = i := by rw [HF.out, HD.out, find, if_pos hq]
    have hqb : (x.f0.toList == a.toList) = true := beq_iff_eq.mpr hq
    rw [hqb] at HK
    go_wp2_with (go_at_fn 78; refine HK.out.mono ?_; rintro e w' ⟨rfl, hb'⟩)
    go_ret
    exact ⟨by first | rfl | (rw [e1]; rfl), below_step HB.out hb'⟩
   have e1 : find a l 0 = find a (l.drop (i + 1).toNat) (i + 1) := by
    rw [HF.out, HD.out, find, if_neg hq]
    rw [show i.toNat + 1 = (i + 1).toNat by omega]
   have hqb : (x.f0.toList == a.toList) = false := beq_eq_false_iff_ne.mpr hq
   rw [hqb] at HK
   go_wp2_with (go_at_fn 78; refine HK.out.mono ?_; rintro e w' ⟨rfl, hb'⟩)
   go_roundg (l.length - (i + 1).toNat)
   case measure => omega
   case rel => exact ⟨i + 1, by omega, by omega, by omega, by first | rfl | (rw [wrap64_id] <;> omega) | go_num, ⟨below_step HB.out hb'⟩, ⟨e1⟩⟩
  have e1 : find a l 0 = -1 := by rw [HF.out, List.drop_of_length_le (by omega)]; rfl
  have hlt' : decide (i < (l.length : Int)) = false := decide_eq_false hlt
  go_wp2
  go_ret
  exact ⟨by first | rfl | (rw [e1]; rfl), HB.out⟩
end impl_placeOf
def impl_placeOf.f (l0_0 : List S45) (a1 : ByteArray) : Option (Int) := some (impl_placeOf.find a1 l0_0 0)
set_option maxHeartbeats 8000000 in
set_option maxRecDepth 100000 in
theorem impl_placeOf.calls (A0_0 : Option Addr) (c0_0 : Nat) (l0_0 : List S45) (a1 : ByteArray) (r : Int) (w : World) (hr0_0 : Kd.C k45 w A0_0 l0_0.length l0_0) (hc0_0 : l0_0.length ≤ c0_0) (h : impl_placeOf.f l0_0 a1 = some r) :
  Calls Try.prog 54 #[.agg #[.slice A0_0 l0_0.length c0_0], .string a1] w fun e w' => e = .returned (.int .i64 r) ∧ Below w.heap.size w w' := by
 obtain rfl := Option.some.inj h
 clear h
 have hb2 : Below w.heap.size w ((w.alloc (.cells #[.slice A0_0 l0_0.length c0_0] 29)).alloc (.cells #[.string a1] 9)) := below_alloc (below_alloc (Below.refl _ _) _) _
 have HI := Aside0.mk (impl_placeOf.index A0_0 c0_0 l0_0 a1 (w.heap.size + 1) ((w.alloc (.cells #[.slice A0_0 l0_0.length c0_0] 29)).alloc (.cells #[.string a1] 9)) (Kd.C_below hr0_0 (hb2.mono (by simp))) (by simp) (by simp))
 go_enter Try.func54, Try.ntmps54
 go_wp2_with (go_at_call 77; refine HI.out.mono ?_; rintro e w' ⟨rfl, hb'⟩)
 go_ret
 exact ⟨rfl, below_step hb2 hb'⟩

/-! ### impl_FileAt: function 18 -/
def impl_FileAt.f (l0_0 : List (S45)) (a1 : ByteArray) : Option (ByteArray × Bool) := (impl_placeOf.f l0_0 a1).bind fun t102 => (if t102 < 0 then (some ((⟨#[]⟩ : ByteArray), false)) else (if 0 ≤ t102 then (if t102 < (l0_0.length : Int) then (some ((rd_T45 l0_0 t102).f1, true)) else (none)) else (none)))
set_option maxHeartbeats 8000000 in
set_option maxRecDepth 100000 in
theorem impl_FileAt.calls (A0_0 : Option Addr) (c0_0 : Nat) (l0_0 : List (S45)) (a1 : ByteArray) (r1 : ByteArray) (r2 : Bool) (w : World) (hr0_0 : Kd.C k45 w A0_0 l0_0.length l0_0) (hc0_0 : l0_0.length ≤ c0_0) (h : impl_FileAt.f l0_0 a1 = some (r1, r2)) :
  Calls Try.prog 18 #[.agg #[.slice A0_0 l0_0.length c0_0], .string a1] w fun e w' => e = .returned (.tuple #[.string r1, .bool r2]) ∧ Below w.heap.size w w' := by
 have hu29 := Try.underlying29
 have HR0_0 := Aside0.mk hr0_0
 have Af := Aside0.mk hc0_0
 clear hr0_0 hc0_0
 have HB := Aside0.mk (Below.refl w.heap.size w)
 have H : ((impl_placeOf.f l0_0 a1).bind fun Aa => (if Aa < 0 then (some ((⟨#[]⟩ : ByteArray), false)) else (if 0 ≤ Aa then (if Aa < (l0_0.length : Int) then (some ((rd_T45 l0_0 Aa).f1, true)) else (none)) else (none)))) = some (r1, r2) := h
 clear h
 replace H := Option.bind_eq_some_iff.mp H
 obtain ⟨Aa, Ao, H⟩ := H
 have A3 := Aside0.mk Ao
 clear Ao
 by_cases c4 : Aa < 0
 ·rw [if_pos c4] at H
  have Am := decide_eq_true c4
  clear c4
  simp only [Option.some.injEq, Prod.mk.injEq] at H
  obtain ⟨rfl, rfl⟩ := H
  go_enter Try.func18, Try.ntmps18
  go_wp2_with (first | ((with_reducible refine gate_dst (N := 2) rfl ?_); refine zx (N := 2) (cs := #[.slice A0_0 l0_0.length c0_0]) (t := 29) ?_; intro Ai hg w5 hbox hb; have Ab := Aside0.mk (hbox); have Aj := zg HB hg; have Ak := zg HB hg; replace HB := zs HB hb; clear hb hbox hg; obtain ⟨_, _⟩ := zc1 Ab) | ((with_reducible refine gate_callee (f := 54) rfl ?_); refine zG (some 9) Try.func54 #[.agg #[.slice A0_0 l0_0.length c0_0], .string a1] ?_; (with_reducible refine (impl_placeOf.calls _ _ l0_0 a1 Aa _ ?side1 ?side2 A3.out).mono ?_); (case side1 => exact zI (Kd.C_below HR0_0.out HB.out)); (case side2 => exact Af.out); rintro e w7 ⟨rfl, hb⟩; refine ⟨_, rfl, ?_⟩; replace Ab := zb Ab hb; replace HB := zs HB hb; clear hb))
  go_ret2
  exact ⟨ze, zw HB⟩
 rw [if_neg c4] at H
 have Am := decide_eq_false c4
 clear c4
 by_cases c8 : 0 ≤ Aa
 ·rw [if_pos c8] at H
  have c8b0 := decide_eq_true c8
  clear c8
  by_cases c9 : Aa < (l0_0.length : Int)
  ·rw [if_pos c9] at H
   have c9b0 := decide_eq_true c9
   clear c9
   simp only [Option.some.injEq, Prod.mk.injEq] at H
   obtain ⟨rfl, rfl⟩ := H
   go_enter Try.func18, Try.ntmps18
   go_wp2_with (first | ((with_reducible refine gate_dst (N := 2) rfl ?_); refine zx (N := 2) (cs := #[.slice A0_0 l0_0.length c0_0]) (t := 29) ?_; intro Ai hg w10 hbox hb; have Ab := Aside0.mk (hbox); have Aj := zg HB hg; have Ak := zg HB hg; replace HB := zs HB hb; clear hb hbox hg; obtain ⟨_, _⟩ := zc1 Ab) | ((with_reducible refine gate_callee (f := 54) rfl ?_); refine zG (some 9) Try.func54 #[.agg #[.slice A0_0 l0_0.length c0_0], .string a1] ?_; (with_reducible refine (impl_placeOf.calls _ _ l0_0 a1 Aa _ ?side1 ?side2 A3.out).mono ?_); (case side1 => exact zI (Kd.C_below HR0_0.out HB.out)); (case side2 => exact Af.out); rintro e w12 ⟨rfl, hb⟩; refine ⟨_, rfl, ?_⟩; replace Ab := zb Ab hb; replace HB := zs HB hb; clear hb; obtain ⟨_, _⟩ := zc1 Ab; have Ah : 0 ≤ (Aa : Int) := of_decide_eq_true za; have Ag : Aa < (l0_0.length : Int) := of_decide_eq_true za; obtain ⟨ad103, Al, Ae, Ad, Ac⟩ := at_T45 HR0_0.out Aa Ah Ag; cases Al; replace Ae := zU HB.out Ae; replace Ad := zU HB.out Ad; replace Ac := zU HB.out Ac; replace Ah := eq_true Ah; replace Ag := eq_true Ag))
   go_ret2
   exact ⟨ze, zw HB⟩
  rw [if_neg c9] at H
  exact absurd H (by simp)
 rw [if_neg c8] at H
 exact absurd H (by simp)

/-! ### laws_big: function 21 -/
def laws_big.f (l0 : List Int) : Option (Bool) := some (decide ((l0.length : Int) > 1048576))
set_option maxHeartbeats 8000000 in
set_option maxRecDepth 100000 in
theorem laws_big.calls (A0 : Option Addr) (c0 : Nat) (l0 : List Int) (r : Bool) (w : World) (hr0 : Kd.C (Kd.int .u8) w A0 l0.length l0) (hc0 : l0.length ≤ c0) (h : laws_big.f l0 = some r) :
  Calls Try.prog 21 #[.slice A0 l0.length c0] w fun e w' => e = .returned (.bool r) ∧ Drawn0 w w' := by
 have HR0 := Aside0.mk hr0
 have HC0 := Aside0.mk hc0
 clear hr0 hc0
 have H : (some (decide ((l0.length : Int) > 1048576))) = some r := h
 clear h
 obtain rfl := Option.some.inj H
 go_enter Try.func21, Try.ntmps21
 go_wp2
 go_ret
 exact ⟨by first | rfl | (simp; done) | (simp [*]; done), by repeat (first | exact Drawn0.refl _ | apply Drawn0.step)⟩

/-! ### laws_sameDisk: function 26 -/
def laws_sameDisk.l0 : Nat → Int → List (S45) → List (S45) → Option (Bool)
 | 0, _, _, _ => none
 | k + 1, x5, x105000, x106000 => if x5 < (x105000.length : Int) then (if 0 ≤ x5 then (if x5 < (x106000.length : Int) then (if (!((((rd_T45 x105000 x5).f0).toList) == (((rd_T45 x106000 x5).f0).toList)) || (!((((rd_T45 x105000 x5).f1).toList) == (((rd_T45 x106000 x5).f1).toList)) || (!(((rd_T45 x105000 x5).f2) == ((rd_T45 x106000 x5).f2))))) = true then (some false) else (laws_sameDisk.l0 k (wrap64 (x5 + 1)) x105000 x106000)) else (none)) else (none)) else (some true)
def laws_sameDisk.f (k : Nat) (l0_0 : List (S45)) (l1_0 : List (S45)) : Option (Bool) := if (l0_0.length : Int) = (l1_0.length : Int) then (laws_sameDisk.l0 k 0 l0_0 l1_0) else (some false)
theorem laws_sameDisk.mono_l : ∀ k, (∀ y0 y1 y2, LeO (laws_sameDisk.l0 k y0 y1 y2) (laws_sameDisk.l0 (k + 1) y0 y1 y2))
 | 0 => fun _ _ _ r h => by simp [laws_sameDisk.l0] at h
 | k + 1 => by
  have ih0 := laws_sameDisk.mono_l k
  intro y0 y1 y2
  unfold laws_sameDisk.l0
  repeat' first
  | (with_reducible exact ih0 _ _ _)
  | (with_reducible exact LeO.refl _)
  | (with_reducible exact LeO.none _)
  | (with_reducible refine LeO.ite ?_ ?_)
  | (with_reducible refine LeO.bind ?_ (fun _ => ?_))
  | exact ih0 _ _ _
  | exact LeO.none _
  | refine LeO.ite ?_ ?_
  | refine LeO.bind ?_ (fun _ => ?_)
theorem laws_sameDisk.mono : ∀ a0 a1 k, LeO (laws_sameDisk.f k a0 a1) (laws_sameDisk.f (k + 1) a0 a1) := by
 intro a0 a1 k
 have ih0 := laws_sameDisk.mono_l k
 unfold laws_sameDisk.f
 repeat' first
   | (with_reducible exact ih0 _ _ _)
   | (with_reducible exact LeO.refl _)
   | (with_reducible exact LeO.none _)
   | (with_reducible refine LeO.ite ?_ ?_)
   | (with_reducible refine LeO.bind ?_ (fun _ => ?_))
   | exact ih0 _ _ _
   | exact LeO.none _
   | refine LeO.ite ?_ ?_
   | refine LeO.bind ?_ (fun _ => ?_)
set_option maxHeartbeats 8000000 in
set_option maxRecDepth 100000 in
theorem laws_sameDisk.calls (k : Nat) (A0_0 : Option Addr) (c0_0 : Nat) (l0_0 : List (S45)) (A1_0 : Option Addr) (c1_0 : Nat) (l1_0 : List (S45)) (r : Bool) (w : World) (hr0_0 : Kd.C k45 w A0_0 l0_0.length l0_0) (hc0_0 : l0_0.length ≤ c0_0) (hr1_0 : Kd.C k45 w A1_0 l1_0.length l1_0) (hc1_0 : l1_0.length ≤ c1_0) (h : laws_sameDisk.f k l0_0 l1_0 = some r) :
  Calls Try.prog 26 #[.agg #[.slice A0_0 l0_0.length c0_0], .agg #[.slice A1_0 l1_0.length c1_0]] w fun e w' => e = .returned (.bool r) ∧ Below w.heap.size w w' := by
 have hu29 := Try.underlying29
 have hu45 := Try.underlying45
 have HR0_0 := Aside0.mk hr0_0
 have HC0_0 := Aside0.mk hc0_0
 clear hr0_0 hc0_0
 have HR1_0 := Aside0.mk hr1_0
 have HC1_0 := Aside0.mk hc1_0
 clear hr1_0 hc1_0
 have HB := Aside0.mk (Below.refl w.heap.size w)
 have H : (if (l0_0.length : Int) = (l1_0.length : Int) then (laws_sameDisk.l0 k 0 l0_0 l1_0) else (some false)) = some r := h
 clear h
 by_cases c3 : (l0_0.length : Int) = (l1_0.length : Int)
 ·rw [if_pos c3] at H
  have Bp : ((l0_0.length : Int) == (l1_0.length : Int)) = true := beq_iff_eq.mpr c3
  have Bo : ((l0_0.length : Int) != (l1_0.length : Int)) = false := bne_eq_false_iff_eq.mpr c3
  have Bn : (l0_0.length == l1_0.length) = true := by first | simpa using c3 | (simp at c3 ⊢; omega)
  clear c3
  have H' := Aside0.mk H
  clear H
  go_enter Try.func26, Try.ntmps26
  go_wp2_with (first | ((with_reducible refine gate_dst (N := 2) rfl ?_); refine zx (N := 2) (cs := #[.slice A0_0 l0_0.length c0_0]) (t := 29) ?_; intro Am hg w4 hbox hb; have Aa := Aside0.mk (hbox); have Ap := zg HB hg; have Ar := zg HB hg; replace HB := zs HB hb; clear hb hbox hg) | ((with_reducible refine gate_dst (N := 3) rfl ?_); refine zx (N := 3) (cs := #[.slice A1_0 l1_0.length c1_0]) (t := 29) ?_; intro Al hg w5 hbox hb; have Ae := Aside0.mk (hbox); have Ao := zg HB hg; have Aq := zg HB hg; replace HB := zs HB hb; have Ac := zl Aa hg; have Ab := zr Aa hg; replace Aa := zb Aa hb; clear hb hbox hg; have Bm := Ac.out; have Bl := Ab.out; obtain ⟨Bh, Bf⟩ := zc1 Aa; obtain ⟨Bg, Be⟩ := zc1 Ae))
  repeat (go_quiet (first | ((with_reducible refine gate_dst (N := 2) rfl ?_); refine zx (N := 2) (cs := #[.slice A0_0 l0_0.length c0_0]) (t := 29) ?_; intro Am hg w4 hbox hb; have Aa := Aside0.mk (hbox); have Ap := zg HB hg; have Ar := zg HB hg; replace HB := zs HB hb; clear hb hbox hg) | ((with_reducible refine gate_dst (N := 3) rfl ?_); refine zx (N := 3) (cs := #[.slice A1_0 l1_0.length c1_0]) (t := 29) ?_; intro Al hg w5 hbox hb; have Ae := Aside0.mk (hbox); have Ao := zg HB hg; have Aq := zg HB hg; replace HB := zs HB hb; have Ac := zl Aa hg; have Ab := zr Aa hg; replace Aa := zb Aa hb; clear hb hbox hg; have Bm := Ac.out; have Bl := Ab.out; obtain ⟨Bh, Bf⟩ := zc1 Aa; obtain ⟨Bg, Be⟩ := zc1 Ae)); try go_wp2_with (first | ((with_reducible refine gate_dst (N := 2) rfl ?_); refine zx (N := 2) (cs := #[.slice A0_0 l0_0.length c0_0]) (t := 29) ?_; intro Am hg w4 hbox hb; have Aa := Aside0.mk (hbox); have Ap := zg HB hg; have Ar := zg HB hg; replace HB := zs HB hb; clear hb hbox hg) | ((with_reducible refine gate_dst (N := 3) rfl ?_); refine zx (N := 3) (cs := #[.slice A1_0 l1_0.length c1_0]) (t := 29) ?_; intro Al hg w5 hbox hb; have Ae := Aside0.mk (hbox); have Ao := zg HB hg; have Aq := zg HB hg; replace HB := zs HB hb; have Ac := zl Aa hg; have Ab := zr Aa hg; replace Aa := zb Aa hb; clear hb hbox hg; have Bm := Ac.out; have Bl := Ab.out; obtain ⟨Bh, Bf⟩ := zc1 Aa; obtain ⟨Bg, Be⟩ := zc1 Ae)))
  go_loopg [5] k (fun kq v5 w' => ∃ (Ad : Int), v5 = .int .i64 Ad ∧ Aside0 (laws_sameDisk.l0 kq Ad l0_0 l1_0 = some r) ∧ Aside0 (kq ≤ k) ∧ Aside0 (w'.heap[Am]? = some (.cells #[(.slice A0_0 l0_0.length c0_0)] 29 (0, 0))) ∧ Aside0 (w'.heap[Al]? = some (.cells #[(.slice A1_0 l1_0.length c1_0)] 29 (0, 0))) ∧ Aside0 (Below w.heap.size w w'))
  case atStart => exact ⟨(0), zf, H', ⟨Nat.le_refl _⟩, ⟨zkf Aa⟩, ⟨zkf Ae⟩, ⟨zw HB⟩⟩
  case round =>
   clear H'
   try clear c1
   try clear c2
   try clear p2
   try clear c3
   try clear Bp
   try clear Bo
   try clear Bn
   try clear c6
   try clear Bh
   try clear Bg
   try clear Bf
   try clear Be
   obtain ⟨Ad, rfl, HA, Bz, Aa, Ae, HB⟩ := hrel
   cases gk with
   | zero => exact absurd HA.out (by simp [laws_sameDisk.l0])
   | succ k1 =>
    have H := HA.out
    clear HA
    simp only [laws_sameDisk.l0] at H
    by_cases c9 : Ad < (l0_0.length : Int)
    ·rw [if_pos c9] at H
     have Bv := decide_eq_true c9
     clear c9
     by_cases Bu : 0 ≤ Ad
     ·rw [if_pos Bu] at H
      have c10b0 := decide_eq_true Bu
      clear Bu
      by_cases Bt : Ad < (l1_0.length : Int)
      ·rw [if_pos Bt] at H
       have c11b0 := decide_eq_true Bt
       clear Bt
       by_cases Bk : (!((((rd_T45 l0_0 Ad).f0).toList) == (((rd_T45 l1_0 Ad).f0).toList)) || (!((((rd_T45 l0_0 Ad).f1).toList) == (((rd_T45 l1_0 Ad).f1).toList)) || (!(((rd_T45 l0_0 Ad).f2) == ((rd_T45 l1_0 Ad).f2))))) = true
       ·rw [if_pos Bk] at H
        have Bq : (!((((rd_T45 l0_0 Ad).f0).toList) == (((rd_T45 l1_0 Ad).f0).toList)) || (!((((rd_T45 l0_0 Ad).f1).toList) == (((rd_T45 l1_0 Ad).f1).toList)) || (!(((rd_T45 l0_0 Ad).f2) == ((rd_T45 l1_0 Ad).f2))))) = true := Bk
        clear Bk
        obtain rfl := Option.some.inj H
        have hnb13 := Ac.out
        have hnc13 := Ab.out
        obtain ⟨_, _⟩ := zc1 Aa
        have Ax : 0 ≤ (Ad : Int) := of_decide_eq_true za
        have Au : Ad < (l0_0.length : Int) := of_decide_eq_true za
        obtain ⟨Bs, Bj, Ak, Aj, Ai⟩ := at_T45 HR0_0.out Ad Ax Au
        cases Bj
        replace Ak := zU HB.out Ak
        replace Aj := zU HB.out Aj
        replace Ai := zU HB.out Ai
        replace Ax := eq_true Ax
        replace Au := eq_true Au
        obtain ⟨_, _⟩ := zc1 Ae
        have Aw : 0 ≤ (Ad : Int) := of_decide_eq_true za
        have As : Ad < (l1_0.length : Int) := of_decide_eq_true za
        obtain ⟨Br, Bi, Ah, Ag, Af⟩ := at_T45 HR1_0.out Ad Aw As
        cases Bi
        replace Ah := zU HB.out Ah
        replace Ag := zU HB.out Ag
        replace Af := zU HB.out Af
        replace Aw := eq_true Aw
        replace As := eq_true As
        go_wp2
        repeat (go_quiet (fail); try go_wp2)
        go_ret
        exact ⟨ze, zw HB⟩
       rw [if_neg Bk] at H
       have Bq : (!((((rd_T45 l0_0 Ad).f0).toList) == (((rd_T45 l1_0 Ad).f0).toList)) || (!((((rd_T45 l0_0 Ad).f1).toList) == (((rd_T45 l1_0 Ad).f1).toList)) || (!(((rd_T45 l0_0 Ad).f2) == ((rd_T45 l1_0 Ad).f2))))) = false := by simpa using Bk
       clear Bk
       have H' := Aside0.mk H
       clear H
       have hnb16 := Ac.out
       have hnc16 := Ab.out
       obtain ⟨_, _⟩ := zc1 Aa
       have Ax : 0 ≤ (Ad : Int) := of_decide_eq_true za
       have Au : Ad < (l0_0.length : Int) := of_decide_eq_true za
       obtain ⟨Bs, Bj, Ak, Aj, Ai⟩ := at_T45 HR0_0.out Ad Ax Au
       cases Bj
       replace Ak := zU HB.out Ak
       replace Aj := zU HB.out Aj
       replace Ai := zU HB.out Ai
       replace Ax := eq_true Ax
       replace Au := eq_true Au
       obtain ⟨_, _⟩ := zc1 Ae
       have Aw : 0 ≤ (Ad : Int) := of_decide_eq_true za
       have As : Ad < (l1_0.length : Int) := of_decide_eq_true za
       obtain ⟨Br, Bi, Ah, Ag, Af⟩ := at_T45 HR1_0.out Ad Aw As
       cases Bi
       replace Ah := zU HB.out Ah
       replace Ag := zU HB.out Ag
       replace Af := zU HB.out Af
       replace Aw := eq_true Aw
       replace As := eq_true As
       go_wp2
       repeat (go_quiet (fail); try go_wp2)
       go_roundg k1
       case measure => have := Bz.out; omega
       case rel => exact ⟨(wrap64 (Ad + 1)), zf, H', ⟨by have := Bz.out; omega⟩, ⟨zkf Aa⟩, ⟨zkf Ae⟩, ⟨zw HB⟩⟩
      rw [if_neg Bt] at H
      exact absurd H (by simp)
     rw [if_neg Bu] at H
     exact absurd H (by simp)
    rw [if_neg c9] at H
    have Bv := decide_eq_false c9
    clear c9
    obtain rfl := Option.some.inj H
    have hnb19 := Ac.out
    have hnc19 := Ab.out
    obtain ⟨_, _⟩ := zc1 Aa
    go_wp2
    repeat (go_quiet (fail); try go_wp2)
    go_ret
    exact ⟨ze, zw HB⟩
 rw [if_neg c3] at H
 have Bp : ((l0_0.length : Int) == (l1_0.length : Int)) = false := beq_eq_false_iff_ne.mpr c3
 have Bo : ((l0_0.length : Int) != (l1_0.length : Int)) = true := bne_iff_ne.mpr c3
 have Bn : (l0_0.length == l1_0.length) = false := by first | simpa using c3 | (simp at c3 ⊢; omega)
 obtain rfl := Option.some.inj H
 go_enter Try.func26, Try.ntmps26
 go_wp2_with (first | ((with_reducible refine gate_dst (N := 2) rfl ?_); refine zx (N := 2) (cs := #[.slice A0_0 l0_0.length c0_0]) (t := 29) ?_; intro Am hg Bx hbox hb; have Aa := Aside0.mk (hbox); have Ap := zg HB hg; have Ar := zg HB hg; replace HB := zs HB hb; clear hb hbox hg) | ((with_reducible refine gate_dst (N := 3) rfl ?_); refine zx (N := 3) (cs := #[.slice A1_0 l1_0.length c1_0]) (t := 29) ?_; intro Al hg Bw hbox hb; have Ae := Aside0.mk (hbox); have Ao := zg HB hg; have Aq := zg HB hg; replace HB := zs HB hb; have Ac := zl Aa hg; have Ab := zr Aa hg; replace Aa := zb Aa hb; clear hb hbox hg; have Bd := Ac.out; have Bc := Ab.out; obtain ⟨Bb, Az⟩ := zc1 Aa; obtain ⟨Ba, Ay⟩ := zc1 Ae))
 repeat (go_quiet (first | ((with_reducible refine gate_dst (N := 2) rfl ?_); refine zx (N := 2) (cs := #[.slice A0_0 l0_0.length c0_0]) (t := 29) ?_; intro Am hg Bx hbox hb; have Aa := Aside0.mk (hbox); have Ap := zg HB hg; have Ar := zg HB hg; replace HB := zs HB hb; clear hb hbox hg) | ((with_reducible refine gate_dst (N := 3) rfl ?_); refine zx (N := 3) (cs := #[.slice A1_0 l1_0.length c1_0]) (t := 29) ?_; intro Al hg Bw hbox hb; have Ae := Aside0.mk (hbox); have Ao := zg HB hg; have Aq := zg HB hg; replace HB := zs HB hb; have Ac := zl Aa hg; have Ab := zr Aa hg; replace Aa := zb Aa hb; clear hb hbox hg; have Bd := Ac.out; have Bc := Ab.out; obtain ⟨Bb, Az⟩ := zc1 Aa; obtain ⟨Ba, Ay⟩ := zc1 Ae)); try go_wp2_with (first | ((with_reducible refine gate_dst (N := 2) rfl ?_); refine zx (N := 2) (cs := #[.slice A0_0 l0_0.length c0_0]) (t := 29) ?_; intro Am hg Bx hbox hb; have Aa := Aside0.mk (hbox); have Ap := zg HB hg; have Ar := zg HB hg; replace HB := zs HB hb; clear hb hbox hg) | ((with_reducible refine gate_dst (N := 3) rfl ?_); refine zx (N := 3) (cs := #[.slice A1_0 l1_0.length c1_0]) (t := 29) ?_; intro Al hg Bw hbox hb; have Ae := Aside0.mk (hbox); have Ao := zg HB hg; have Aq := zg HB hg; replace HB := zs HB hb; have Ac := zl Aa hg; have Ab := zr Aa hg; replace Aa := zb Aa hb; clear hb hbox hg; have Bd := Ac.out; have Bc := Ab.out; obtain ⟨Bb, Az⟩ := zc1 Aa; obtain ⟨Ba, Ay⟩ := zc1 Ae)))
 go_ret
 exact ⟨ze, zw HB⟩

/-! ### impl_within: function 51 -/
def impl_within.f (a0 : Int) (a1 : Int) (a2 : Int) : Option (Bool) := if a0 ≥ a1 then (some (decide (a0 ≤ a2))) else (some false)
set_option maxHeartbeats 8000000 in
set_option maxRecDepth 100000 in
theorem impl_within.calls (a0 : Int) (a1 : Int) (a2 : Int) (r : Bool) (w : World) (h : impl_within.f a0 a1 a2 = some r) :
  Calls Try.prog 51 #[.int .i64 a0, .int .i64 a1, .int .i64 a2] w fun e w' => e = .returned (.bool r) ∧ Drawn0 w w' := by
 have H : (if a0 ≥ a1 then (some (decide (a0 ≤ a2))) else (some false)) = some r := h
 clear h
 by_cases c4 : a0 ≥ a1
 ·rw [if_pos c4] at H
  have Aa : decide (a1 ≤ a0) = true := decide_eq_true c4
  clear c4
  obtain rfl := Option.some.inj H
  go_enter Try.func51, Try.ntmps51
  go_wp2
  go_ret
  exact ⟨by first | rfl | (simp; done) | (simp [*]; done), by repeat (first | exact Drawn0.refl _ | apply Drawn0.step)⟩
 rw [if_neg c4] at H
 have Aa : decide (a1 ≤ a0) = false := decide_eq_false c4
 clear c4
 obtain rfl := Option.some.inj H
 go_enter Try.func51, Try.ntmps51
 go_wp2
 go_ret
 exact ⟨by first | rfl | (simp; done) | (simp [*]; done), by repeat (first | exact Drawn0.refl _ | apply Drawn0.step)⟩

end Go.Proofs.Ytdiecogmaiglaaa.PFnActs
