import Derived.Test.YtdiecogmaiglaaaQFnExactDoActsx0
import Derived.Test.YtdiecogmaiglaaaQFnExactDoActsx11
namespace Go.Proofs.Ytdiecogmaiglaaa.PFnExactDoActs
open Go.RowKit Go.Proofs.YtdiecogmaiglaaaW.PrintWords Go.Proofs.YtdiecogmaiglaaaW.PrintLast Go.Proofs.YtdiecogmaiglaaaW.PrintMore
attribute [local go_sem] max2_int min2_int max_two min_two max_three min_three max_four min_four   -- for this text's walks alone
set_option linter.unusedVariables false
set_option linter.unusedSimpArgs false

/-! ### impl_placeOf: function 54, given by hand -/
namespace impl_placeOf
/-- the place of the first file of a name, counted from i; -1 without one -/
def find (a : ByteArray) : List S45 → Int → Int
 | [], _ => -1
 | x :: r, i => if x.f0.toList = a.toList then i else find a r (i + 1)
theorem closure (B : Nat) (x : S45) (a : ByteArray) (w : World) (hB : B < w.heap.size) (hc : w.cell? ⟨B, 0, none⟩ = some (.string a)) :
  Calls Try.prog 78 #[.agg #[.string x.f0, .string x.f1, .int .i64 x.f2], .pointer (some ⟨B, 0, none⟩)] w fun e w' => e = .returned (.bool (x.f0.toList == a.toList)) ∧ Below w.heap.size w w' := by
 have hne : B ≠ w.heap.size := by omega
 go_enter Try.func78, Try.ntmps78
 go_wp2
 all_goals (go_ret; exact ⟨by first | rfl | simp_all, (Below.refl _ w).alloc (Nat.le_refl _) _⟩)
set_option maxHeartbeats 8000000 in
set_option maxRecDepth 100000 in
theorem index (A : Option Addr) (c : Nat) (l : List S45) (a : ByteArray) (B : Nat) (w : World) (hr : Kd.C k45 w A l.length l) (hB : B < w.heap.size) (hc : w.cell? ⟨B, 0, none⟩ = some (.string a)) :
  Calls Try.prog 77 #[.slice A l.length c, .func (.func 78) #[] #[.pointer (some ⟨B, 0, none⟩)]] w fun e w' => e = .returned (.int .i64 (find a l 0)) ∧ Below w.heap.size w w' := by
 have eg : ∀ args w, (callFunc 78 args).run Try.prog w = .ok (.enter 78 args) w := enters_of Try.func78 (by kernel_rfl) rfl
 have hmax : l.length ≤ 9223372036854775807 := hr.2.1
 have HR := Aside0.mk hr
 have HCL := Aside0.mk (fun (x : S45) (W : World) (hb : Below w.heap.size w W) => closure B x a W (Nat.lt_of_lt_of_le hB hb.size) ((hb.cell (p := ⟨B, 0, none⟩) hB).trans hc))
 clear hr hc
 go_enter Try.func77, Try.ntmps77
 go_wp2
 go_loopg [5, 8] l.length (fun gg _ s8 wr => ∃ i : Int, 0 ≤ i ∧ i ≤ l.length ∧ l.length - i.toNat ≤ gg ∧ s8 = .int .i64 i ∧ Aside0 (Below w.heap.size w wr) ∧ Aside0 (find a l 0 = find a (l.drop i.toNat) i))
 case atStart => exact ⟨0, Int.le_refl _, by omega, by omega, rfl, ⟨Below.refl _ w⟩, ⟨rfl⟩⟩
 case round =>
  obtain ⟨i, hi0, hi1, hg, rfl, HB, HF⟩ := hrel
  by_cases hlt : i < (l.length : Int)
  ·obtain ⟨ad, ea, hx0, hx1, hx2⟩ := at_T45 HR.out i hi0 hlt
   cases ea
   replace hx0 := zU HB.out hx0
   replace hx1 := zU HB.out hx1
   replace hx2 := zU HB.out hx2
   have HD := Aside0.mk (show l.drop i.toNat = rd_T45 l i :: l.drop (i.toNat + 1) by
    have hl : i.toNat < l.length := by omega
    rw [List.drop_eq_getElem_cons hl]
    congr 1
    unfold rd_T45
    rw [List.getD_eq_getElem?_getD, List.getElem?_eq_getElem hl]; rfl)
   generalize rd_T45 l i = x at hx0 hx1 hx2 HD
   have HK := Aside0.mk (HCL.out x wr HB.out)
   have hlt' : decide (i < (l.length : Int)) = true := decide_eq_true hlt
   have h0' : decide (0 ≤ i) = true := decide_eq_true hi0
   by_cases hq : x.f0.toList = a.toList
   ·have e1 : find a l 0 = i := by rw [HF.out, HD.out, find, if_pos hq]
    have hqb : (x.f0.toList == a.toList) = true := beq_iff_eq.mpr hq
    rw [hqb] at HK
    go_wp2_with (go_at_fn 78; refine HK.out.mono ?_; rintro e w' ⟨rfl, hb'⟩)
    go_ret
    exact ⟨by first | rfl | (rw [e1]; rfl), below_step HB.out hb'⟩
   have e1 : find a l 0 = find a (l.drop (i + 1).toNat) (i + 1) := by
    rw [HF.out, HD.out, find, if_neg hq]
    rw [show i.toNat + 1 = (i + 1).toNat by omega]
   have hqb : (x.f0.toList == a.toList) = false := beq_eq_false_iff_ne.mpr hq
   rw [hqb] at HK
   go_wp2_with (go_at_fn 78; refine HK.out.mono ?_; rintro e w' ⟨rfl, hb'⟩)
   go_roundg (l.length - (i + 1).toNat)
   case measure => omega
   case rel => exact ⟨i + 1, by omega, by omega, by omega, by first | rfl | (rw [wrap64_id] <;> omega) | go_num, ⟨below_step HB.out hb'⟩, ⟨e1⟩⟩
  have e1 : find a l 0 = -1 := by rw [HF.out, List.drop_of_length_le (by omega)]; rfl
  have hlt' : decide (i < (l.length : Int)) = false := decide_eq_false hlt
  go_wp2
  go_ret
  exact ⟨by first | rfl | (rw [e1]; rfl), HB.out⟩
end impl_placeOf
def impl_placeOf.f (l0_0 : List S45) (a1 : ByteArray) : Option (Int) := some (impl_placeOf.find a1 l0_0 0)
set_option maxHeartbeats 8000000 in
set_option maxRecDepth 100000 in
theorem impl_placeOf.calls (A0_0 : Option Addr) (c0_0 : Nat) (l0_0 : List S45) (a1 : ByteArray) (r : Int) (w : World) (hr0_0 : Kd.C k45 w A0_0 l0_0.length l0_0) (hc0_0 : l0_0.length ≤ c0_0) (h : impl_placeOf.f l0_0 a1 = some r) :
  Calls Try.prog 54 #[.agg #[.slice A0_0 l0_0.length c0_0], .string a1] w fun e w' => e = .returned (.int .i64 r) ∧ Below w.heap.size w w' := by
 obtain rfl := Option.some.inj h
 clear h
 have hb2 : Below w.heap.size w ((w.alloc (.cells #[.slice A0_0 l0_0.length c0_0] 29)).alloc (.cells #[.string a1] 9)) := below_alloc (below_alloc (Below.refl _ _) _) _
 have HI := Aside0.mk (impl_placeOf.index A0_0 c0_0 l0_0 a1 (w.heap.size + 1) ((w.alloc (.cells #[.slice A0_0 l0_0.length c0_0] 29)).alloc (.cells #[.string a1] 9)) (Kd.C_below hr0_0 (hb2.mono (by simp))) (by simp) (by simp))
 go_enter Try.func54, Try.ntmps54
 go_wp2_with (go_at_call 77; refine HI.out.mono ?_; rintro e w' ⟨rfl, hb'⟩)
 go_ret
 exact ⟨rfl, below_step hb2 hb'⟩

/-! ### impl_actOk: function 65 -/
def impl_actOk.f (a0_0 : Int) (a0_1 : ByteArray) (a0_2 : ByteArray) (a0_3 : ByteArray) : Option (Bool) := (impl_within.f a0_0 1 4).bind fun t249 => (if t249 = true then (if a0_2.toList = ([] : List UInt8) then (if a0_3.toList = ([] : List UInt8) then (some true) else (some (a0_0 == 3))) else (if a0_0 = 1 then (if a0_3.toList = ([] : List UInt8) then (some true) else (some (a0_0 == 3))) else (some false))) else (some false))
set_option maxHeartbeats 8000000 in
set_option maxRecDepth 100000 in
theorem impl_actOk.calls (a0_0 : Int) (a0_1 : ByteArray) (a0_2 : ByteArray) (a0_3 : ByteArray) (r : Bool) (w : World) (h : impl_actOk.f a0_0 a0_1 a0_2 a0_3 = some r) :
  Calls Try.prog 65 #[.agg #[.int .i64 a0_0, .string a0_1, .string a0_2, .string a0_3]] w fun e w' => e = .returned (.bool r) ∧ Below w.heap.size w w' := by
 have hu55 := Try.underlying55
 have HB := Aside0.mk (Below.refl w.heap.size w)
 have H : ((impl_within.f a0_0 1 4).bind fun t249 => (if t249 = true then (if a0_2.toList = ([] : List UInt8) then (if a0_3.toList = ([] : List UInt8) then (some true) else (some (a0_0 == 3))) else (if a0_0 = 1 then (if a0_3.toList = ([] : List UInt8) then (some true) else (some (a0_0 == 3))) else (some false))) else (some false))) = some r := h
 clear h
 replace H := Option.bind_eq_some_iff.mp H
 obtain ⟨t249, A20, H⟩ := H
 have A2 := Aside0.mk A20
 clear A20
 by_cases c3 : t249 = true
 ·subst c3
  rw [if_pos rfl] at H
  by_cases c4 : a0_2.toList = ([] : List UInt8)
  ·rw [if_pos c4] at H
   have c4b0 : (a0_2.toList == ([] : List UInt8)) = true := beq_iff_eq.mpr c4
   have c4e : a0_2.toList.isEmpty = true := by revert c4b0; cases a0_2.toList <;> simp
   have c4b1 : (a0_2.toList != ([] : List UInt8)) = false := bne_eq_false_iff_eq.mpr c4
   clear c4
   by_cases c5 : a0_3.toList = ([] : List UInt8)
   ·rw [if_pos c5] at H
    have c5b0 : (a0_3.toList == ([] : List UInt8)) = true := beq_iff_eq.mpr c5
    have c5e : a0_3.toList.isEmpty = true := by revert c5b0; cases a0_3.toList <;> simp
    have c5b1 : (a0_3.toList != ([] : List UInt8)) = false := bne_eq_false_iff_eq.mpr c5
    clear c5
    obtain rfl := Option.some.inj H
    go_enter Try.func65, Try.ntmps65
    go_wp2_with (first | ((with_reducible refine gate_dst (N := 1) rfl ?_); refine zx (N := 1) (cs := #[.int .i64 a0_0, .string a0_1, .string a0_2, .string a0_3]) (t := 55) ?_; intro gb248 hg w6 hbox hb; have BK248 := Aside0.mk (hbox); have GW248 := zg HB hg; have GE248 := zg HB hg; replace HB := zs HB hb; clear hb hbox hg; obtain ⟨m7_0, m7_1, m7_2, m7_3, n7_0, n7_1, n7_2, n7_3⟩ := zc4 BK248) | ((with_reducible refine gate_callee (f := 51) rfl ?_); refine zG (some 5) Try.func51 #[.int .i64 a0_0, .int .i64 1, .int .i64 4] ?_; (with_reducible refine (impl_within.calls a0_0 1 4 true _ A2.out).mono ?_); rintro e w' ⟨rfl, ⟨nd, rfl⟩⟩; refine ⟨_, rfl, ?_⟩))
    go_ret
    exact ⟨ze, zw HB⟩
   rw [if_neg c5] at H
   have c5b0 : (a0_3.toList == ([] : List UInt8)) = false := beq_eq_false_iff_ne.mpr c5
   have c5e : a0_3.toList.isEmpty = false := by revert c5b0; cases a0_3.toList <;> simp
   have c5b1 : (a0_3.toList != ([] : List UInt8)) = true := bne_iff_ne.mpr c5
   obtain rfl := Option.some.inj H
   go_enter Try.func65, Try.ntmps65
   go_wp2_with (first | ((with_reducible refine gate_dst (N := 1) rfl ?_); refine zx (N := 1) (cs := #[.int .i64 a0_0, .string a0_1, .string a0_2, .string a0_3]) (t := 55) ?_; intro gb248 hg w8 hbox hb; have BK248 := Aside0.mk (hbox); have GW248 := zg HB hg; have GE248 := zg HB hg; replace HB := zs HB hb; clear hb hbox hg; obtain ⟨m9_0, m9_1, m9_2, m9_3, n9_0, n9_1, n9_2, n9_3⟩ := zc4 BK248) | ((with_reducible refine gate_callee (f := 51) rfl ?_); refine zG (some 5) Try.func51 #[.int .i64 a0_0, .int .i64 1, .int .i64 4] ?_; (with_reducible refine (impl_within.calls a0_0 1 4 true _ A2.out).mono ?_); rintro e w' ⟨rfl, ⟨nd, rfl⟩⟩; refine ⟨_, rfl, ?_⟩))
   go_ret
   exact ⟨ze, zw HB⟩
  rw [if_neg c4] at H
  have c4b0 : (a0_2.toList == ([] : List UInt8)) = false := beq_eq_false_iff_ne.mpr c4
  have c4e : a0_2.toList.isEmpty = false := by revert c4b0; cases a0_2.toList <;> simp
  have c4b1 : (a0_2.toList != ([] : List UInt8)) = true := bne_iff_ne.mpr c4
  by_cases c10 : a0_0 = 1
  ·rw [if_pos c10] at H
   have c10b0 : (a0_0 == 1) = true := beq_iff_eq.mpr c10
   have c10b1 : (a0_0 != 1) = false := bne_eq_false_iff_eq.mpr c10
   clear c10
   by_cases c11 : a0_3.toList = ([] : List UInt8)
   ·rw [if_pos c11] at H
    have c11b0 : (a0_3.toList == ([] : List UInt8)) = true := beq_iff_eq.mpr c11
    have c11e : a0_3.toList.isEmpty = true := by revert c11b0; cases a0_3.toList <;> simp
    have c11b1 : (a0_3.toList != ([] : List UInt8)) = false := bne_eq_false_iff_eq.mpr c11
    clear c11
    obtain rfl := Option.some.inj H
    go_enter Try.func65, Try.ntmps65
    go_wp2_with (first | ((with_reducible refine gate_dst (N := 1) rfl ?_); refine zx (N := 1) (cs := #[.int .i64 a0_0, .string a0_1, .string a0_2, .string a0_3]) (t := 55) ?_; intro gb248 hg w12 hbox hb; have BK248 := Aside0.mk (hbox); have GW248 := zg HB hg; have GE248 := zg HB hg; replace HB := zs HB hb; clear hb hbox hg; obtain ⟨m13_0, m13_1, m13_2, m13_3, n13_0, n13_1, n13_2, n13_3⟩ := zc4 BK248) | ((with_reducible refine gate_callee (f := 51) rfl ?_); refine zG (some 5) Try.func51 #[.int .i64 a0_0, .int .i64 1, .int .i64 4] ?_; (with_reducible refine (impl_within.calls a0_0 1 4 true _ A2.out).mono ?_); rintro e w' ⟨rfl, ⟨nd, rfl⟩⟩; refine ⟨_, rfl, ?_⟩))
    go_ret
    exact ⟨ze, zw HB⟩
   rw [if_neg c11] at H
   have c11b0 : (a0_3.toList == ([] : List UInt8)) = false := beq_eq_false_iff_ne.mpr c11
   have c11e : a0_3.toList.isEmpty = false := by revert c11b0; cases a0_3.toList <;> simp
   have c11b1 : (a0_3.toList != ([] : List UInt8)) = true := bne_iff_ne.mpr c11
   obtain rfl := Option.some.inj H
   go_enter Try.func65, Try.ntmps65
   go_wp2_with (first | ((with_reducible refine gate_dst (N := 1) rfl ?_); refine zx (N := 1) (cs := #[.int .i64 a0_0, .string a0_1, .string a0_2, .string a0_3]) (t := 55) ?_; intro gb248 hg w14 hbox hb; have BK248 := Aside0.mk (hbox); have GW248 := zg HB hg; have GE248 := zg HB hg; replace HB := zs HB hb; clear hb hbox hg; obtain ⟨m15_0, m15_1, m15_2, m15_3, n15_0, n15_1, n15_2, n15_3⟩ := zc4 BK248) | ((with_reducible refine gate_callee (f := 51) rfl ?_); refine zG (some 5) Try.func51 #[.int .i64 a0_0, .int .i64 1, .int .i64 4] ?_; (with_reducible refine (impl_within.calls a0_0 1 4 true _ A2.out).mono ?_); rintro e w' ⟨rfl, ⟨nd, rfl⟩⟩; refine ⟨_, rfl, ?_⟩))
   go_ret
   exact ⟨ze, zw HB⟩
  rw [if_neg c10] at H
  have c10b0 : (a0_0 == 1) = false := beq_eq_false_iff_ne.mpr c10
  have c10b1 : (a0_0 != 1) = true := bne_iff_ne.mpr c10
  obtain rfl := Option.some.inj H
  go_enter Try.func65, Try.ntmps65
  go_wp2_with (first | ((with_reducible refine gate_dst (N := 1) rfl ?_); refine zx (N := 1) (cs := #[.int .i64 a0_0, .string a0_1, .string a0_2, .string a0_3]) (t := 55) ?_; intro gb248 hg w16 hbox hb; have BK248 := Aside0.mk (hbox); have GW248 := zg HB hg; have GE248 := zg HB hg; replace HB := zs HB hb; clear hb hbox hg; obtain ⟨m17_0, m17_1, m17_2, m17_3, n17_0, n17_1, n17_2, n17_3⟩ := zc4 BK248) | ((with_reducible refine gate_callee (f := 51) rfl ?_); refine zG (some 5) Try.func51 #[.int .i64 a0_0, .int .i64 1, .int .i64 4] ?_; (with_reducible refine (impl_within.calls a0_0 1 4 true _ A2.out).mono ?_); rintro e w' ⟨rfl, ⟨nd, rfl⟩⟩; refine ⟨_, rfl, ?_⟩))
  go_ret
  exact ⟨ze, zw HB⟩
 replace c3 := Bool.eq_false_iff.mpr c3
 subst c3
 rw [if_neg (show ¬ (false = true) by decide)] at H
 obtain rfl := Option.some.inj H
 go_enter Try.func65, Try.ntmps65
 go_wp2_with (first | ((with_reducible refine gate_dst (N := 1) rfl ?_); refine zx (N := 1) (cs := #[.int .i64 a0_0, .string a0_1, .string a0_2, .string a0_3]) (t := 55) ?_; intro gb248 hg w18 hbox hb; have BK248 := Aside0.mk (hbox); have GW248 := zg HB hg; have GE248 := zg HB hg; replace HB := zs HB hb; clear hb hbox hg; obtain ⟨m19_0, m19_1, m19_2, m19_3, n19_0, n19_1, n19_2, n19_3⟩ := zc4 BK248) | ((with_reducible refine gate_callee (f := 51) rfl ?_); refine zG (some 5) Try.func51 #[.int .i64 a0_0, .int .i64 1, .int .i64 4] ?_; (with_reducible refine (impl_within.calls a0_0 1 4 false _ A2.out).mono ?_); rintro e w' ⟨rfl, ⟨nd, rfl⟩⟩; refine ⟨_, rfl, ?_⟩))
 go_ret
 exact ⟨ze, zw HB⟩

/-! ### impl_copyDisk: function 61 -/
def impl_copyDisk.f (l0_0 : List (S45)) : Option ((List (S45))) := (some (([] : List (S45)) : List (S45))).bind fun y252 => (if y252.length + l0_0.length < 3518437208883 then (some (y252 ++ l0_0)) else (none))
set_option maxHeartbeats 8000000 in
set_option maxRecDepth 100000 in
theorem impl_copyDisk.calls (A0_0 : Option Addr) (c0_0 : Nat) (l0_0 : List (S45)) (r : List (S45)) (w : World) (hr0_0 : Kd.C k45 w A0_0 l0_0.length l0_0) (hc0_0 : l0_0.length ≤ c0_0) (h : impl_copyDisk.f l0_0 = some r) :
  Calls Try.prog 61 #[.agg #[.slice A0_0 l0_0.length c0_0]] w fun e w' => ∃ v0_ : Value, e = .returned (.agg #[v0_]) ∧ Kd.R k45 45 w' w.heap.size (fun _ => True) v0_ r ∧ Below w.heap.size w w' := by
 have hu29 := Try.underlying29
 have HR0_0 := Aside0.mk hr0_0
 have HC0_0 := Aside0.mk hc0_0
 clear hr0_0 hc0_0
 have HB := Aside0.mk (Below.refl w.heap.size w)
 have H : ((some (([] : List (S45)) : List (S45))).bind fun y252 => (if y252.length + l0_0.length < 3518437208883 then (some (y252 ++ l0_0)) else (none))) = some r := h
 clear h
 obtain ⟨y252, hy252⟩ : ∃ y_ : List (S45), y_ = (([] : List (S45))) := ⟨_, rfl⟩
 replace H : (if y252.length + l0_0.length < 3518437208883 then (some (y252 ++ l0_0)) else (none)) = some r := by first | (rw [hy252]; with_reducible exact H) | (have H2_ := (Option.bind_some _ _).symm.trans H; rw [hy252]; with_reducible exact H2_) | (have H2_ := (Option.bind_some _ _).symm.trans H; with_reducible exact H2_) | with_reducible exact H | (rw [hy252]; exact H) | exact H
 have Ny252 := Aside0.mk hy252
 clear hy252
 by_cases c2 : y252.length + l0_0.length < 3518437208883
 ·rw [if_pos c2] at H
  have LMc2 := Aside0.mk c2
  clear c2
  obtain ⟨y255, hy255⟩ : ∃ y_ : List (S45), y_ = (y252 ++ l0_0) := ⟨_, rfl⟩
  replace H : (some y255) = some r := by first | (rw [hy255]; with_reducible exact H) | (have H2_ := (Option.bind_some _ _).symm.trans H; rw [hy255]; with_reducible exact H2_) | (have H2_ := (Option.bind_some _ _).symm.trans H; with_reducible exact H2_) | with_reducible exact H | (rw [hy255]; exact H) | exact H
  have Ny255 := Aside0.mk hy255
  clear hy255
  obtain rfl := Option.some.inj H
  go_enter Try.func61, Try.ntmps61
  go_wp2_with (first | ((with_reducible refine gate_dst (N := 1) rfl ?_); refine zx (N := 1) (cs := #[.slice A0_0 l0_0.length c0_0]) (t := 29) ?_; intro gb250 hg w3 hbox hb; have BK250 := Aside0.mk (hbox); have GW250 := zg HB hg; have GE250 := zg HB hg; replace HB := zs HB hb; clear hb hbox hg) | ((with_reducible refine gate_dst (N := 2) rfl ?_); refine zx (N := 2) (cs := #[.slice none 0 0]) (t := 29) ?_; intro gb251 hg w4 hbox hb; have BK251 := Aside0.mk (hbox); have GW251 := zg HB hg; have GE251 := zg HB hg; replace HB := zs HB hb; have NB250_251 := zl BK250 hg; have NB251_250 := zr BK250 hg; replace BK250 := zb BK250 hb; clear hb hbox hg) | ((with_reducible refine gate_dst (N := 3) rfl ?_); refine Kd.R_lit k45 _ 45 ?hg (N := 3) ?hd (xs := ([] : List (S45))) (inner := []) (ok := fun _ => True) (okp := fun _ => True) ?hr ?hp (fun _ hk => hk) trivial (Below.refl _ _) (Nat.le_refl _) (by simp) ?_; (case hd => rfl); (case hg => rfl); (case hr => first | (go_simp; done) | (go_simp; rfl)); (case hp => exact (Reps.none _ _)); intro v253 w5 ho6 hb hg_ hnew_; clear hg_ hnew_; (first | rw [← Ny252.out] at ho6 | (simp only [Int.reduceToNat] at ho6; rw [← Ny252.out] at ho6)); have HO254 := Aside0.mk (Kd.R_lower ho6 (below_size (zw HB))); replace BK250 := zb BK250 hb; replace BK251 := zb BK251 hb; replace HB := zs HB hb; clear hb ho6; have hnb7 := NB250_251.out; have hnc7 := NB251_250.out; obtain ⟨m8_0, n8_0⟩ := zc1 BK250) | ((with_reducible refine gate_builtin (b := .append) (xs := #[.tmp 3, .tmp 5]) rfl ?_); at_builtin; refine Kd.R_append_rows k45 (w0 := w) w.heap.size rfl (.tmp 3) (.tmp 5) 27 45 (.agg #[(.string ⟨#[]⟩), (.string ⟨#[]⟩), (.int .i64 0)]) 40 rfl Try.underlying27 info45 rfl (by decide) (by omega) v253 y252 l0_0 _ _ _ (fun _ => True) (fun _ => False) rfl rfl ?aO ?aR (fun _ _ h => h) (fun _ h => h.elim) ?aF ?aB ?aS ?aL ?_; (case aR => exact zI (Kd.C_below HR0_0.out HB.out)); (case aB => exact (zw HB)); (case aF => exact (fun _ _ => trivial)); (case aO => exact (zo HO254.out)); (case aS => exact (below_size (zw HB))); (case aL => have := LMc2.out; omega); intro v256 w9 ho hb hg hat; rw [← Ny255.out] at ho; replace BK250 := Aside0.mk (blk_grown (g := gb250) (o := .cells #[.slice A0_0 l0_0.length c0_0] 29 (0, 0)) (zk BK250) hg (Kd.R_ne HO254.out BK250.out (by decide))); replace BK251 := Aside0.mk (blk_grown (g := gb251) (o := .cells #[.slice none 0 0] 29 (0, 0)) (zk BK251) hg (Kd.R_ne HO254.out BK251.out (by decide))); replace HB := Aside0.mk (hb); have HO257 := Aside0.mk (ho); clear HO254; clear ho hb hg hat; obtain ⟨Ao10, co10, eo10⟩ := Kd.R_slice HO257.out; subst eo10; obtain ⟨m11_0, n11_0⟩ := zc1 BK251))
  refine bodyPost_ret (results_cell_row rfl _ _ gb251 29 #[.slice Ao10 y255.length co10] (0, 0) _ rfl (by (with_reducible repeat (first | refine blk_drewN ?_ _ | refine blk_drew ?_ | refine blk_alloc ?_ _)); refine blk_put (cs := #[.slice none 0 0]) ?_ 0 _ rfl; (with_reducible repeat (first | refine blk_drewN ?_ _ | refine blk_drew ?_ | refine blk_alloc ?_ _)); exact BK251.out) Try.underlying29 rfl (by kernel_rfl)) rfl ?_
  exact ⟨_, ze, zo (Kd.R_mono (Kd.R_far (p := ⟨gb251, 0, none⟩) (Kd.R_types HO257.out BK251.out (by decide)) (fun _ hk => hk.2) (.slice Ao10 y255.length co10)) (fun _ hk => trivial)), zw HB⟩
 rw [if_neg c2] at H
 exact absurd H (by simp)

-- NOT PRINTED: function 81 (impl_File_81)

-- NOT PRINTED: function 82 (impl_withoutFile_1)

/-! ### impl_withoutFile: function 67, given by hand -/
namespace impl_withoutFile
open Go.Proofs.Ytdiecogmaiglaaa.Gen
def keep (a : ByteArray) (l : List S45) : List S45 := l.filter fun x => !(x.f0.toList == a.toList)
/-- a file's fcells -/
def fcells (x : S45) : List Value := [.string x.f0, .string x.f1, .int .i64 x.f2]
def fl (l : List S45) : List Value := l.flatMap fcells
theorem fl_cons (x : S45) (l : List S45) : fl (x :: l) = fcells x ++ fl l := rfl
theorem fl_append (l m : List S45) : fl (l ++ m) = fl l ++ fl m := by simp [fl]
theorem fl_len : ∀ l : List S45, (fl l).length = l.length * 3
 | [] => rfl
 | x :: l => by rw [fl_cons, List.length_append, fl_len l, List.length_cons, Nat.succ_mul, Nat.add_comm]; rfl
theorem fl_one (l : List S45) : ∀ u ∈ fl l, u.oneCell' = true := by
 intro u hu
 obtain ⟨x, _, h⟩ := List.mem_flatMap.1 hu
 simp only [fcells, List.mem_cons, List.not_mem_nil, or_false] at h
 rcases h with rfl | rfl | rfl <;> rfl
theorem fl_take : ∀ (l : List S45) (m : Nat), (fl l).take (m * 3) = fl (l.take m)
 | [], m => by simp [fl]
 | x :: l, 0 => by simp [fl]
 | x :: l, m + 1 => by
  rw [fl_cons, List.take_succ_cons, fl_cons, show (m + 1) * 3 = (fcells x).length + m * 3 by rw [Nat.succ_mul, Nat.add_comm]; rfl, List.take_length_add_append, fl_take l m]
theorem fl_drop : ∀ (l : List S45) (m : Nat), (fl l).drop (m * 3) = fl (l.drop m)
 | [], m => by simp [fl]
 | x :: l, 0 => by simp [fl]
 | x :: l, m + 1 => by
  rw [fl_cons, List.drop_succ_cons, show (m + 1) * 3 = (fcells x).length + m * 3 by rw [Nat.succ_mul, Nat.add_comm]; rfl, List.drop_length_add_append, fl_drop l m]
theorem fl_reps {R : S45 → List Value → Prop} (hR : ∀ x c, R x c → c = fcells x) : ∀ (l : List S45) (inner : List Value), Reps R 3 l inner → inner = fl l
 | [], inner, h => List.eq_nil_of_length_eq_zero (by rw [h.1]; rfl)
 | x :: l, inner, h => by
  have h0 := hR x _ (h.2 0 x rfl)
  have h1 := fl_reps hR l (inner.drop (1 * 3)) (Kd.reps_drop (m := 1) h)
  rw [Nat.zero_mul, List.drop_zero] at h0
  rw [fl_cons, ← h0, ← h1, Nat.one_mul, List.take_append_drop]
theorem reps_fl {R : S45 → List Value → Prop} (hR : ∀ x, R x (fcells x)) (l : List S45) : Reps R 3 l (fl l) := by
 refine ⟨fl_len l, fun j p hj => ?_⟩
 rw [fl_drop]
 obtain ⟨hl, e⟩ := List.getElem?_eq_some_iff.1 hj
 rw [List.drop_eq_getElem_cons hl, e, fl_cons]
 have := hR p
 rw [show (fcells p ++ fl (l.drop (j + 1))).take 3 = fcells p from List.take_left' rfl]
 exact this
theorem own_of_R {w : World} {base : Nat} {ok : Nat → Prop} {v : Value} {l : List S45} (h : Kd.R k45 45 w base ok v l) : w.ownsRow base 45 3 v l.length (fl l) := by
 obtain ⟨_, inner, ho, hr⟩ := h
 rw [← fl_reps (fun x c hx => k45_openM hx) l inner hr]
 exact ho
theorem R_of_own {w : World} {base : Nat} {ok : Nat → Prop} {v : Value} {l : List S45} (h0 : ∀ k, v.ownBlock = some k → ok k) (h : w.ownsRow base 45 3 v l.length (fl l)) : Kd.R k45 45 w base ok v l :=
 ⟨h0, fl l, h, reps_fl (fun x => k45_mkM _ _ _ x) l⟩
/-- the place of the first file of a name, counted from i; -1 without one -/
def find (a : ByteArray) : List S45 → Int → Int
 | [], _ => -1
 | x :: r, i => if x.f0.toList = a.toList then i else find a r (i + 1)
theorem closure (B : Nat) (x : S45) (a : ByteArray) (w : World) (hB : B < w.heap.size) (hc : w.cell? ⟨B, 0, none⟩ = some (.string a)) :
  Calls Try.prog 82 #[.agg #[.string x.f0, .string x.f1, .int .i64 x.f2], .pointer (some ⟨B, 0, none⟩)] w fun e w' => e = .returned (.bool (x.f0.toList == a.toList)) ∧ Below w.heap.size w w' := by
 have hne : B ≠ w.heap.size := by omega
 go_enter Try.func82, Try.ntmps82
 go_wp2
 all_goals (go_ret; exact ⟨by first | rfl | simp_all, (Below.refl _ w).alloc (Nat.le_refl _) _⟩)
set_option maxHeartbeats 8000000 in
set_option maxRecDepth 100000 in
theorem index (A : Option Addr) (c : Nat) (l : List S45) (a : ByteArray) (B : Nat) (w : World) (hr : Kd.C k45 w A l.length l) (hB : B < w.heap.size) (hc : w.cell? ⟨B, 0, none⟩ = some (.string a)) :
  Calls Try.prog 77 #[.slice A l.length c, .func (.func 82) #[] #[.pointer (some ⟨B, 0, none⟩)]] w fun e w' => e = .returned (.int .i64 (find a l 0)) ∧ Below w.heap.size w w' := by
 have eg : ∀ args w, (callFunc 82 args).run Try.prog w = .ok (.enter 82 args) w := enters_of Try.func82 (by kernel_rfl) rfl
 have hmax : l.length ≤ 9223372036854775807 := hr.2.1
 have HR := Aside0.mk hr
 have HCL := Aside0.mk (fun (x : S45) (W : World) (hb : Below w.heap.size w W) => closure B x a W (Nat.lt_of_lt_of_le hB hb.size) ((hb.cell (p := ⟨B, 0, none⟩) hB).trans hc))
 clear hr hc
 go_enter Try.func77, Try.ntmps77
 go_wp2
 go_loopg [5, 8] l.length (fun gg _ s8 wr => ∃ i : Int, 0 ≤ i ∧ i ≤ l.length ∧ l.length - i.toNat ≤ gg ∧ s8 = .int .i64 i ∧ Aside0 (Below w.heap.size w wr) ∧ Aside0 (find a l 0 = find a (l.drop i.toNat) i))
 case atStart => exact ⟨0, Int.le_refl _, by omega, by omega, rfl, ⟨Below.refl _ w⟩, ⟨rfl⟩⟩
 case round =>
  obtain ⟨i, hi0, hi1, hg, rfl, HB, HF⟩ := hrel
  by_cases hlt : i < (l.length : Int)
  ·obtain ⟨ad, ea, hx0, hx1, hx2⟩ := at_T45 HR.out i hi0 hlt
   cases ea
   replace hx0 := zU HB.out hx0
   replace hx1 := zU HB.out hx1
   replace hx2 := zU HB.out hx2
   have HD := Aside0.mk (show l.drop i.toNat = rd_T45 l i :: l.drop (i.toNat + 1) by
    have hl : i.toNat < l.length := by omega
    rw [List.drop_eq_getElem_cons hl]
    congr 1
    unfold rd_T45
    rw [List.getD_eq_getElem?_getD, List.getElem?_eq_getElem hl]; rfl)
   generalize rd_T45 l i = x at hx0 hx1 hx2 HD
   have HK := Aside0.mk (HCL.out x wr HB.out)
   have hlt' : decide (i < (l.length : Int)) = true := decide_eq_true hlt
   have h0' : decide (0 ≤ i) = true := decide_eq_true hi0
   by_cases hq : x.f0.toList = a.toList
   ·have e1 : find a l 0 = i := by rw [HF.out, HD.out, find, if_pos hq]
    have hqb : (x.f0.toList == a.toList) = true := beq_iff_eq.mpr hq
    rw [hqb] at HK
    go_wp2_with (go_at_fn 82; refine HK.out.mono ?_; rintro e w' ⟨rfl, hb'⟩)
    go_ret
    exact ⟨by first | rfl | (rw [e1]; rfl), below_step HB.out hb'⟩
   have e1 : find a l 0 = find a (l.drop (i + 1).toNat) (i + 1) := by
    rw [HF.out, HD.out, find, if_neg hq]
    rw [show i.toNat + 1 = (i + 1).toNat by omega]
   have hqb : (x.f0.toList == a.toList) = false := beq_eq_false_iff_ne.mpr hq
   rw [hqb] at HK
   go_wp2_with (go_at_fn 82; refine HK.out.mono ?_; rintro e w' ⟨rfl, hb'⟩)
   go_roundg (l.length - (i + 1).toNat)
   case measure => omega
   case rel => exact ⟨i + 1, by omega, by omega, by omega, by first | rfl | (rw [wrap64_id] <;> omega) | go_num, ⟨below_step HB.out hb'⟩, ⟨e1⟩⟩
  have e1 : find a l 0 = -1 := by rw [HF.out, List.drop_of_length_le (by omega)]; rfl
  have hlt' : decide (i < (l.length : Int)) = false := decide_eq_false hlt
  go_wp2
  go_ret
  exact ⟨by first | rfl | (rw [e1]; rfl), HB.out⟩
/-- none of the name: nothing falls -/
theorem find_none (a : ByteArray) : ∀ (l : List S45) (i : Int), 0 ≤ i → find a l i = -1 → keep a l = l
 | [], _, _, _ => rfl
 | x :: r, i, h0, h => by
  unfold find at h
  split at h
  ·omega
  rename_i hq
  have hqb : (x.f0.toList == a.toList) = false := beq_eq_false_iff_ne.mpr hq
  unfold keep
  rw [List.filter_cons_of_pos (by rw [hqb]; rfl)]
  have := find_none a r (i + 1) (by omega) h
  unfold keep at this
  rw [this]
theorem find_some (a : ByteArray) : ∀ (l : List S45) (i : Int), 0 ≤ i → find a l i ≠ -1 → ∃ k : Nat, find a l i = i + k ∧ ∃ hk : k < l.length, keep a (l.take k) = l.take k ∧ (l[k]).f0.toList = a.toList
 | [], _, _, h => absurd rfl h
 | x :: r, i, h0, h => by
  unfold find at h ⊢
  by_cases hq : x.f0.toList = a.toList
  ·rw [if_pos hq]
   exact ⟨0, by omega, by simp, rfl, hq⟩
  rw [if_neg hq] at h ⊢
  obtain ⟨k, e, hk, h1, h2⟩ := find_some a r (i + 1) (by omega) h
  have hqb : (x.f0.toList == a.toList) = false := beq_eq_false_iff_ne.mpr hq
  refine ⟨k + 1, by rw [e]; omega, by simpa using hk, ?_, by simpa using h2⟩
  rw [List.take_succ_cons]
  unfold keep at h1 ⊢
  rw [List.filter_cons_of_pos (by rw [hqb]; rfl), h1]
end impl_withoutFile
namespace impl_withoutFile
open Go.Proofs.Ytdiecogmaiglaaa.Gen
theorem own_cut {w : World} {base g n c m o : Nat} {e size : Nat} {xs : List Value} (h : w.ownsRow base e size (.slice (some ⟨g, 0, none⟩) n c) n xs) (hm : m ≤ n) (ho : m * size ≤ o) (vs : List Value) (hf : o + vs.length ≤ c * size) :
  (w.setCells g o vs).ownsRow base e size (.slice (some ⟨g, 0, none⟩) m c) m (xs.take (m * size)) := by
 obtain ⟨h1, h2⟩ := h
 rcases h2 with ⟨hv, _⟩ | ⟨g', c', cur, hv, hb, hh, hnc, hcm, hcs, htake⟩
 ·cases hv
 injection hv with ha _ hc
 injection ha with ha
 injection ha with hg
 subst hg; subst hc
 obtain ⟨cur', h3, h4, h5⟩ := setCells_row vs o w cur hh (by omega)
 have hms : m * size ≤ n * size := Nat.mul_le_mul_right _ hm
 have hmc : n * size ≤ c * size := Nat.mul_le_mul_right _ hnc
 refine ⟨by rw [List.length_take, h1, Nat.min_eq_left hms], .inr ⟨g, c, cur', rfl, hb, h3, by omega, hcm, by rw [h4, hcs], ?_⟩⟩
 rw [h5, ← htake, List.take_take, Nat.min_eq_left hms, List.append_assoc, List.take_append_of_le_length (by rw [List.length_take, Array.length_toList]; omega), List.take_take, Nat.min_eq_left ho]
theorem R_blk {w : World} {base g n c : Nat} {ok : Nat → Prop} {l : List S45} (h : Kd.R k45 45 w base ok (.slice (some ⟨g, 0, none⟩) n c) l) : ∃ cur : Array Value, w.heap[g]? = some (.cells cur 45 (0, 0)) ∧ cur.size = c * 3 ∧ n = l.length ∧ n ≤ c ∧ c ≤ maxLen ∧ base ≤ g := by
 have hn := (Kd.R_reads' h).1
 obtain ⟨h1, h2⟩ := own_of_R h
 rcases h2 with ⟨hv, _⟩ | ⟨g', c', cur, hv, hb, hh, hnc, hcm, hcs, htake⟩
 ·cases hv
 injection hv with ha h4 hc
 injection ha with ha
 injection ha with hg
 subst hg; subst hc
 exact ⟨cur, hh, hcs, hn, by omega, hcm, hb⟩
theorem zeros_fl (m : Nat) : (Builtin.zeroCells (Value.agg #[.string ⟨#[]⟩, .string ⟨#[]⟩, .int .i64 0]).cells m).toList = fl (List.replicate m z45) :=
 fl_reps (R := fun x c => c = fcells x) (fun _ _ h => h) _ _ (Kd.reps_zeros (R := fun (x : S45) c => c = fcells x) (z0 := z45) (size := 3) (z := .agg #[.string ⟨#[]⟩, .string ⟨#[]⟩, .int .i64 0]) rfl (by decide) rfl m)
theorem zeros_one (m : Nat) : ∀ v ∈ (Builtin.zeroCells (Value.agg #[.string ⟨#[]⟩, .string ⟨#[]⟩, .int .i64 0]).cells m).toList, v.oneCell' = true := by rw [zeros_fl]; exact fl_one _
set_option maxHeartbeats 8000000 in
set_option maxRecDepth 100000 in
theorem delete (g c : Nat) (l : List S45) (a : ByteArray) (B : Nat) (w : World) (base : Nat) (hr : Kd.R k45 45 w base (fun _ => True) (.slice (some ⟨g, 0, none⟩) l.length c) l) (hB : B < w.heap.size) (hne : B ≠ g) (hc : w.cell? ⟨B, 0, none⟩ = some (.string a)) :
  Calls Try.prog 81 #[.slice (some ⟨g, 0, none⟩) l.length c, .func (.func 82) #[] #[.pointer (some ⟨B, 0, none⟩)]] w fun e w' => e = .returned (.slice (some ⟨g, 0, none⟩) (keep a l).length c) ∧ Kd.R k45 45 w' base (fun _ => True) (.slice (some ⟨g, 0, none⟩) (keep a l).length c) (keep a l) ∧ w.grownBy w' (some g) := by
 have hidx := index (some ⟨g, 0, none⟩) c l a B w (Kd.R_reads' hr).2.2 hB hc
 have hmax : l.length ≤ 9223372036854775807 := (Kd.R_reads' hr).2.2.2.1
 obtain ⟨_, hbk, _, _, hlc, hcm, _⟩ := R_blk hr
 have HRW := Aside0.mk hr
 have hglt := blk_lt hbk
 have HCL := Aside0.mk (fun (x : S45) (W : World) (h1 : B < W.heap.size) (h2 : W.cell? ⟨B, 0, none⟩ = some (.string a)) => closure B x a W h1 h2)
 have HCB := Aside0.mk hc
 clear hr hc hbk
 by_cases hf : find a l 0 = -1
 ·have hk := find_none a l 0 (Int.le_refl _) hf
  rw [hf] at hidx
  rw [hk]
  go_enter Try.func81, Try.ntmps81
  go_wp2_with (go_at_call 77; refine hidx.mono ?_; rintro e w' ⟨rfl, hb'⟩)
  go_ret
  exact ⟨rfl, Kd.R_below HRW.out hb', grown_below hb' _⟩
 obtain ⟨k0, e0, hk0, hkeep, hname⟩ := find_some a l 0 (Int.le_refl _) hf
 rw [Int.zero_add] at e0
 rw [e0] at hidx
 have hst : keep a (l.take (k0 + 1)) = l.take k0 := by
  have hqb : ((l[k0]).f0.toList == a.toList) = true := beq_iff_eq.mpr hname
  rw [List.take_succ_eq_append_getElem hk0]
  unfold keep at hkeep ⊢
  rw [List.filter_append, hkeep, List.filter_cons_of_neg (by rw [hqb]; simp), List.filter_nil, List.append_nil]
 have HST := Aside0.mk hst
 clear hst hname hkeep e0 hf
 have hn1 : ((k0 : Int) == -1) = false := beq_eq_false_iff_ne.2 (by omega)
 go_enter Try.func81, Try.ntmps81
 go_wp2_with (go_at_call 77; refine hidx.mono ?_; rintro e w' ⟨rfl, hb'⟩)
 go_loopg [5, 6, 7] l.length (fun gg s5 s6 _ wr => ∃ (i j : Nat) (M : List S45), s5 = .int .i64 i ∧ s6 = .int .i64 j ∧ j ≤ l.length ∧ l.length - j ≤ gg ∧ i < j ∧ Aside0 (Kd.R k45 45 wr base (fun _ => True) (.slice (some ⟨g, 0, none⟩) l.length c) M) ∧ Aside0 (w.grownBy wr (some g)) ∧ Aside0 (M.take i = keep a (l.take j)) ∧ Aside0 (M.drop j = l.drop j))
 case atStart => exact ⟨k0, k0 + 1, l, rfl, by go_num, by omega, by omega, by omega, ⟨Kd.R_below HRW.out hb'⟩, ⟨grown_below hb' _⟩, ⟨HST.out.symm⟩, ⟨rfl⟩⟩
 case round =>
  obtain ⟨i, j, M, rfl, rfl, hjn, hgg, hij, HR, HG, HT, HD⟩ := hrel
  by_cases hlt : j < l.length
  ·have hltz : (j : Int) < (l.length : Int) := by omega
   have HLEN := Aside0.mk (Kd.R_reads' HR.out).1
   obtain ⟨ad, ea, hx0, hx1, hx2⟩ := at_T45 (Kd.R_reads' HR.out).2.2 (j : Int) (by omega) (by have := HLEN.out; omega)
   cases ea
   obtain ⟨ad2, ea2, hy0, hy1, hy2⟩ := at_T45 (Kd.R_reads' HR.out).2.2 (i : Int) (by omega) (by have := HLEN.out; omega)
   cases ea2
   have hMj : rd_T45 M (j : Int) = l[j] := by
    unfold rd_T45
    rw [Int.toNat_natCast, List.getD_eq_getElem?_getD]
    have h1 := congrArg (fun q => q[0]?) HD.out
    simp only [List.getElem?_drop, Nat.add_zero] at h1
    rw [h1, List.getElem?_eq_getElem hlt]; rfl
   rw [hMj] at hx0 hx1 hx2
   clear hMj
   simp only [add_at, Nat.zero_add, Int.toNat_natCast] at hx0 hx1 hx2 hy0 hy1 hy2
   have hBr : B < wr.heap.size := Nat.lt_of_lt_of_le hB HG.out.size
   have hBc : wr.cell? ⟨B, 0, none⟩ = some (.string a) := HG.out.cell HCB.out (by simp; omega)
   have hgr : g < wr.heap.size := Nat.lt_of_lt_of_le hglt HG.out.size
   have hne1 : B ≠ wr.heap.size := by omega
   have hne2 : g ≠ wr.heap.size := by omega
   have hne3 : wr.heap.size ≠ B := by omega
   have hne4 : wr.heap.size ≠ g := by omega
   have HX := Aside0.mk (show l[j] = l[j] from rfl)
   generalize hx : l[j] = x at hx0 hx1 hx2
   obtain ⟨WA, hWA⟩ : ∃ WA, WA = wr.alloc (.cells #[.string x.f0, .string x.f1, .int .i64 x.f2] 45) := ⟨_, rfl⟩
   have HCX : Calls Try.prog 82 #[.agg #[.string x.f0, .string x.f1, .int .i64 x.f2], .pointer (some ⟨B, 0, none⟩)] WA fun e w' => e = .returned (.bool (x.f0.toList == a.toList)) ∧ Below WA.heap.size WA w' := by
    rw [hWA]
    exact HCL.out x _ (Nat.lt_of_lt_of_le hBr (by simp)) (Lib.cell?_alloc_some _ hBc)
   have hsz : WA.heap.size = wr.heap.size + 1 := by rw [hWA]; simp
   have old : ∀ w2 : World, Below WA.heap.size WA w2 → ∀ (p : Addr) (v : Value), wr.cell? p = some v → w2.cell? p = some v := fun w2 hb2 p v hv => by
    have hlt2 := World.block_lt_of_cell? wr p hv
    rw [hb2.cell (p := p) (by rw [hsz]; omega), hWA]
    exact Lib.cell?_alloc_some _ hv
   have new : ∀ w2 : World, Below WA.heap.size WA w2 → w2.heap[wr.heap.size]? = some (.cells #[.string x.f0, .string x.f1, .int .i64 x.f2] 45 (0, 0)) := fun w2 hb2 => by
    rw [hb2.block wr.heap.size (by rw [hsz]; omega), hWA]
    exact blk_new _ _
   have HRW2 := Aside0.mk (fun (w2 : World) (hb2 : Below WA.heap.size WA w2) => (show Kd.R k45 45 w2 base (fun _ => True) (.slice (some ⟨g, 0, none⟩) l.length c) M ∧ w.grownBy w2 (some g) from ⟨Kd.R_below (by rw [hWA]; exact Kd.R_alloc HR.out _) hb2, grown_trans HG.out (grown_trans (by rw [hWA]; exact World.grownBy_alloc _ _ _) (grown_below hb2 _))⟩))
   have HOLD := Aside0.mk old
   have HNEW := Aside0.mk new
   clear old new
   cases hq : (x.f0.toList == a.toList) with
   | true =>
    rw [hq] at HCX
    rw [hWA] at HCX
    go_wp2_with (go_at_call 82; refine HCX.mono ?_; rintro e w2 ⟨rfl, hb2⟩)
    rw [← hWA] at hb2
    go_roundg (l.length - (j + 1))
    case measure => omega
    case rel =>
     have hR2 := HRW2.out w2 hb2
     refine ⟨i, j + 1, M, rfl, by go_num, by omega, Nat.le_refl _, by omega, ⟨hR2.1⟩, ⟨hR2.2⟩, ⟨?_⟩, ⟨?_⟩⟩
     ·rw [List.take_succ_eq_append_getElem hlt, hx]
      have e := HT.out
      unfold keep at e ⊢
      rw [List.filter_append, List.filter_cons_of_neg (by rw [hq]; simp), List.filter_nil, List.append_nil]
      exact e
     have e := congrArg (List.drop 1) HD.out
     rw [List.drop_drop, List.drop_drop] at e
     exact e
   | false =>
    rw [hq] at HCX
    rw [hWA] at HCX
    go_wp2_with (go_at_call 82; refine HCX.mono ?_; rintro e w2 ⟨rfl, hb2⟩; rw [← hWA] at hb2; have z0 := (blk_cell (HNEW.out w2 hb2) 0).trans rfl; have z1 := (blk_cell (HNEW.out w2 hb2) 1).trans rfl; have z2 := (blk_cell (HNEW.out w2 hb2) 2).trans rfl; have y0 := HOLD.out w2 hb2 _ _ hy0; have y1 := HOLD.out w2 hb2 _ _ hy1; have y2 := HOLD.out w2 hb2 _ _ hy2; have f0 := blk_frozen (R_blk (HRW2.out w2 hb2).1).choose_spec.1)
    have hR2 := HRW2.out w2 hb2
    have hstep := Kd.R_seg hR2.1 (i : Int) (by omega) (by omega) (c := [.string (rd_T45 M (i : Int)).f0, .string (rd_T45 M (i : Int)).f1, .int .i64 (rd_T45 M (i : Int)).f2]) (seg := [.string x.f0, .string x.f1, .int .i64 x.f2]) (j := 0) rfl (fun q u hu => by
     match q, hu with
     | 0, hu => injection hu with hu; subst hu; exact y0
     | 1, hu => injection hu with hu; subst hu; exact y1
     | 2, hu => injection hu with hu; subst hu; exact y2) (show 3 ≤ 3 from by decide) (x' := x) (okp := fun k => k ≠ g) (k45_mkM _ _ _ x) (fun k hk => ⟨trivial, hk⟩)
    rw [Int.toNat_natCast] at hstep
    go_roundg (l.length - (j + 1))
    case measure => omega
    case rel =>
     refine ⟨i + 1, j + 1, M.set i x, by go_num, by go_num, by omega, Nat.le_refl _, by omega, ⟨hstep.1⟩, ⟨grown_trans hR2.2 hstep.2⟩, ⟨?_⟩, ⟨?_⟩⟩
     ·have e := HT.out
      rw [take_set_next M i x (by have := HLEN.out; omega), e, List.take_succ_eq_append_getElem hlt, hx]
      unfold keep
      rw [List.filter_append, List.filter_cons_of_pos (by rw [hq]; rfl), List.filter_nil]
     have e := congrArg (List.drop 1) HD.out
     rw [List.drop_drop, List.drop_drop] at e
     rw [List.drop_set_of_lt (by omega)]
     exact e
  obtain rfl : j = l.length := by omega
  have hlen := (Kd.R_reads' HR.out).1
  obtain ⟨cur, hbk, hcs, -, -, -, -⟩ := R_blk HR.out
  have hci : ¬ (c = i) := by omega
  have hi2 : i ≤ M.length := by omega
  have hic : i ≤ c := by omega
  have hfin : M.take i = keep a l := by have := HT.out; rw [List.take_length] at this; exact this
  have hil : (keep a l).length = i := by rw [← hfin, List.length_take]; omega
  have hzl : (Builtin.zeroCells (Value.agg #[.string ⟨#[]⟩, .string ⟨#[]⟩, .int .i64 0]).cells (l.length - i)).toList.length = (l.length - i) * 3 := by
   rw [Array.length_toList, size_zeroCells]; rfl
  have hcl : ∀ ty, (Builtin.clear_ #[27] ty #[.slice (some ⟨g, i * 3, none⟩) (l.length - i) (c - i)]).run Try.prog wr = .ok (.tuple #[]) (wr.setCells g (i * 3) (Builtin.zeroCells (Value.agg #[.string ⟨#[]⟩, .string ⟨#[]⟩, .int .i64 0]).cells (l.length - i)).toList) := fun ty =>
   run_clear_many wr 27 45 ty (.agg #[.string ⟨#[]⟩, .string ⟨#[]⟩, .int .i64 0]) Try.underlying27 Try.zeroValue45 g (i * 3) (l.length - i) (c - i) (by omega)
    (fun q hq => by rw [hzl] at hq; exact blk_cells hbk _ (by rw [hcs]; omega)) (fun q _ => blk_frozen hbk _) (zeros_one _)
  have hown : wr.ownsRow base 45 3 (.slice (some ⟨g, 0, none⟩) l.length c) l.length (fl M) := by
   have h := own_of_R HR.out
   rw [← hlen] at h; exact h
  have hcut := own_cut hown (m := i) (o := i * 3) (by omega) (Nat.le_refl _) (Builtin.zeroCells (Value.agg #[.string ⟨#[]⟩, .string ⟨#[]⟩, .int .i64 0]).cells (l.length - i)).toList (by rw [hzl]; omega)
  have HCUT := Aside0.mk hcut
  clear hcut hlen hbk hzl
  have hltz : ¬ ((l.length : Int) < (l.length : Int)) := by omega
  go_wp2_with (at_builtin; refine wpList_clear_run _ rfl _ _ rfl _ rfl (hcl _) ?_)
  go_ret
  refine ⟨rfl, R_of_own (fun _ _ => trivial) ?_, grown_trans HG.out (grown_setCells _ _ _ _)⟩
  rw [← hfin, ← fl_take, List.length_take, Nat.min_eq_left hi2]
  exact HCUT.out
end impl_withoutFile
namespace impl_withoutFile
open Go.Proofs.Ytdiecogmaiglaaa.Gen
theorem delete_any (v : Value) (l : List S45) (a : ByteArray) (B : Nat) (w : World) (base : Nat) (hr : Kd.R k45 45 w base (fun _ => True) v l) (hB : B < w.heap.size) (hne : ∀ k, v.ownBlock = some k → B ≠ k) (hc : w.cell? ⟨B, 0, none⟩ = some (.string a)) :
  Calls Try.prog 81 #[v, .func (.func 82) #[] #[.pointer (some ⟨B, 0, none⟩)]] w fun e w' => ∃ v', e = .returned v' ∧ Kd.R k45 45 w' base (fun _ => True) v' (keep a l) ∧ w.grownBy w' v.ownBlock := by
 have hr' := hr
 obtain ⟨_, inner, hown, hreps⟩ := hr'
 rcases hown.2 with ⟨rfl, h0⟩ | ⟨g, cap, cur, rfl, _⟩
 ·have hl : l = [] := List.eq_nil_of_length_eq_zero h0
  subst hl
  have hidx := index none 0 [] a B w (Kd.C_nil k45 w) hB hc
  go_enter Try.func81, Try.ntmps81
  go_wp2_with (go_at_call 77; refine hidx.mono ?_; rintro e w' ⟨rfl, hb'⟩)
  go_ret
  exact ⟨_, rfl, Kd.R_below hr hb', grown_below hb' _⟩
 exact (delete g cap l a B w base hr hB (hne g rfl) hc).mono (by
  rintro e w' ⟨rfl, h1, h2⟩
  exact ⟨_, rfl, h1, h2⟩)
end impl_withoutFile
def impl_withoutFile.f (l0_0 : List S45) (a1 : ByteArray) : Option (List S45) := if l0_0.length < 3518437208880 then some (impl_withoutFile.keep a1 l0_0) else none
set_option maxHeartbeats 8000000 in
set_option maxRecDepth 100000 in
theorem impl_withoutFile.calls (A0_0 : Option Addr) (c0_0 : Nat) (l0_0 : List S45) (a1 : ByteArray) (r : List S45) (w : World) (hr0_0 : Kd.C k45 w A0_0 l0_0.length l0_0) (hc0_0 : l0_0.length ≤ c0_0) (h : impl_withoutFile.f l0_0 a1 = some r) :
  Calls Try.prog 67 #[.agg #[.slice A0_0 l0_0.length c0_0], .string a1] w fun e w' => ∃ v0_ : Value, e = .returned (.agg #[v0_]) ∧ Kd.R k45 45 w' w.heap.size (fun _ => True) v0_ r ∧ Below w.heap.size w w' := by
 unfold impl_withoutFile.f at h
 by_cases hl : l0_0.length < 3518437208880
 case neg => rw [if_neg hl] at h; cases h
 rw [if_pos hl] at h
 obtain rfl := Option.some.inj h
 clear h
 have hcf : impl_copyDisk.f l0_0 = some l0_0 := by
  unfold impl_copyDisk.f
  simp only [Option.bind_some, List.length_nil, Nat.zero_add, List.nil_append]
  rw [if_pos (by omega)]
 obtain ⟨W0, hW0⟩ : ∃ W0, W0 = ((w.alloc (.cells #[.slice A0_0 l0_0.length c0_0] 29)).alloc (.cells #[.string a1] 9)).alloc (.cells #[.slice none 0 0] 29) := ⟨_, rfl⟩
 have hb0 : Below w.heap.size w W0 := by rw [hW0]; exact below_alloc (below_alloc (below_alloc (Below.refl _ _) _) _) _
 have hs0 : W0.heap.size = w.heap.size + 3 := by rw [hW0]; simp
 have hbx : W0.heap[w.heap.size + 1]? = some (.cells #[.string a1] 9 (0, 0)) := by rw [hW0]; exact blk_alloc (by have := blk_new (w.alloc (.cells #[.slice A0_0 l0_0.length c0_0] 29)) (.cells #[.string a1] 9 (0, 0)); simpa using this) _
 have hby : W0.heap[w.heap.size + 2]? = some (.cells #[.slice none 0 0] 29 (0, 0)) := by rw [hW0]; have := blk_new ((w.alloc (.cells #[.slice A0_0 l0_0.length c0_0] 29)).alloc (.cells #[.string a1] 9)) (.cells #[.slice none 0 0] 29 (0, 0)); simpa using this
 have hcopy := impl_copyDisk.calls A0_0 c0_0 l0_0 l0_0 W0 (Kd.C_below hr0_0 hb0) hc0_0 hcf
 have HK := Aside0.mk (fun (w1 : World) (v0 : Value) (hR : Kd.R k45 45 w1 W0.heap.size (fun _ => True) v0 l0_0) (hb1 : Below W0.heap.size W0 w1) =>
  (impl_withoutFile.delete_any v0 l0_0 a1 (w.heap.size + 1) w1 W0.heap.size hR (by have := hb1.size; omega) (fun k hk => by have := Kd.R_base hR k hk; omega) ((blk_cell (blk_below hbx hb1) 0).trans rfl)))
 rw [hW0] at hcopy
 have hfd : ∀ (v : Value) (w : World), (Instr.field 29 (.agg #[v]) 0).run Try.prog w = .ok v w := fun _ _ => by kernel_rfl
 go_enter Try.func67, Try.ntmps67
 go_wp2_with (first
  | (go_at_call 61; refine hcopy.mono ?_; rintro e w1 ⟨v0, rfl, hR, hb1⟩; rw [← hW0] at hR hb1)
  | (go_at_call 81; refine (HK.out _ _ hR hb1).mono ?_; rintro e w2 ⟨v1, rfl, hR2, hg2⟩; obtain ⟨A2, c2, hv2⟩ := Kd.R_slice hR2; subst hv2; have hy2 := (hg2.block (w.heap.size + 2) (by have := hb1.size; omega) (fun hk => by have := Kd.R_base hR _ hk.symm; omega)).trans (blk_below hby hb1); have hc2 : w2.cell? ⟨w.heap.size + 1 + 1, 0, none⟩ = some (.slice none 0 0) := (blk_cell hy2 0).trans rfl; have hf2 : w2.frozen? ⟨w.heap.size + 1 + 1, 0, none⟩ = false := blk_frozen hy2 0))
 refine bodyPost_ret (results_cell_row rfl _ _ (w.heap.size + 1 + 1) 29 #[.slice A2 (impl_withoutFile.keep a1 l0_0).length c2] (0, 0) _ rfl (blk_put (cs := #[.slice none 0 0]) hy2 0 _ rfl) Try.underlying29 rfl (by kernel_rfl)) rfl ?_
 have hbW : Below w.heap.size w w2 := by
  refine ⟨hg2.os.trans (hb1.os.trans hb0.os), hg2.tape.trans (hb1.tape.trans hb0.tape), hg2.output.trans (hb1.output.trans hb0.output), Nat.le_trans hb0.size (Nat.le_trans hb1.size hg2.size), fun k hk => ?_⟩
  rw [hg2.block k (by have := hb1.size; omega) (fun hk2 => by have := Kd.R_base hR _ hk2.symm; omega), hb1.block k (by omega), hb0.block k hk]
 refine ⟨_, rfl, ?_, below_set hbW (by omega)⟩
 exact Kd.R_mono (Kd.R_far (p := ⟨w.heap.size + 1 + 1, 0, none⟩) (Kd.R_lower (Kd.R_bound hR2) (by omega)) (fun k hk => by have := hk.2.1; show k ≠ w.heap.size + 1 + 1; omega) _) (fun _ _ => trivial)

-- NOT PRINTED: function 80 (impl_File_80)

end Go.Proofs.Ytdiecogmaiglaaa.PFnExactDoActs
