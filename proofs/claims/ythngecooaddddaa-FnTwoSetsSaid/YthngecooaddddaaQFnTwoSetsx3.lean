import Derived.Test.YthngecooaddddaaQFnTwoSetsx0
import Derived.Test.YthngecooaddddaaQFnTwoSetsx2
namespace Go.Proofs.Ythngecooaddddaa.PFnTwoSets
open Go.RowKit Go.Proofs.YthngecooaddddaaW.PrintWords Go.Proofs.YthngecooaddddaaW.PrintLast Go.Proofs.YthngecooaddddaaW.PrintMore
attribute [local go_sem] max2_int min2_int max_two min_two max_three min_three max_four min_four   -- for this text's walks alone
set_option linter.unusedVariables false
set_option linter.unusedSimpArgs false

/-! ### impl_SetJoin: function 22, given by hand -/
 namespace impl_SetJoin
 section
 open Go.Proofs.Ythngecooaddddaa.Gen
 theorem impl_within_ev (a b c : Int) : impl_within.f a b c = some (decide (b ≤ a ∧ a ≤ c)) := by
   unfold impl_within.f
   by_cases h : a ≥ b
   · rw [if_pos h]; congr 1; simp; omega
   · rw [if_neg h]; congr 1; simp; omega
 
 /-- a range as a pair -/
 def pr (x : S45) : Int × Int := (x.f0, x.f1)
 theorem rd45_at (l : List S45) (i : Nat) (h : i < l.length) : rd_T45 l (i : Int) = l[i] := by
   unfold rd_T45
   rw [Int.toNat_natCast, List.getD_eq_getElem?_getD, List.getElem?_eq_getElem h]; rfl
 theorem impl_SetHas_l0 (l : List S45) (hl : l.length ≤ 1048576) (n : Int) : ∀ (d i : Nat), i + d = l.length → Ev (fun k => impl_SetHas.l0 k n l (l.length : Int) (i : Int)) (hasL ((l.drop i).map pr) n) := by
   intro d
   induction d with
   | zero =>
     intro i hi
     refine Ev.step (impl_SetHas.l0.eq_2 n l (l.length : Int) (i : Int)) (Ev.no (by omega) (Ev.const ?_))
     rw [List.drop_eq_nil_of_le (by omega)]; rfl
   | succ d ih =>
     intro i hi
     have hlt : i < l.length := by omega
     have e := rd45_at l i hlt
     refine Ev.step (impl_SetHas.l0.eq_2 n l (l.length : Int) (i : Int)) (Ev.yes (by omega) (Ev.yes (by omega) (Ev.yes (by omega) (Ev.bindc (impl_within_ev _ _ _) ?_))))
     rw [w64 (by omega) (by omega), List.drop_eq_getElem_cons hlt, ← e]
     generalize rd_T45 l (i : Int) = x
     have e2 : hasL ((x :: l.drop (i + 1)).map pr) n = (decide (x.f0 ≤ n ∧ n ≤ x.f1) || hasL ((l.drop (i + 1)).map pr) n) := rfl
     rw [e2]
     have := ih (i + 1) (by omega)
     refine Ev.ite (fun h => ?_) (fun h => ?_)
     · rw [h]; exact Ev.now _
     · rw [Bool.not_eq_true] at h
       rw [h, Bool.false_or]; exact this
 theorem impl_SetHas_ev (l : List S45) (hl : l.length ≤ 1048576) (n : Int) : Ev (fun k => impl_SetHas.f k l n) (hasL (l.map pr) n) := impl_SetHas_l0 l hl n l.length 0 (by omega)
 
 theorem pv (p : Int → Bool) (g g' : Nat) (lb lb' : Array Value) : ∀ k xs x, impl_setOf.l0 k ⟨p, g, lb⟩ xs x = impl_setOf.l0 k ⟨p, g', lb'⟩ xs x := by
   intro k
   induction k with
   | zero => intro xs x; rfl
   | succ k ih =>
     intro xs x
     simp only [impl_setOf.l0, PVcall.f, Option.bind_some, ih]
 def holds (l0 l1 : List S45) (n : Int) : Bool := hasL (l0.map pr) n || hasL (l1.map pr) n
 /-- the closure -/
 theorem closure (B0 B1 : Nat) (A0 : Option Addr) (c0 : Nat) (l0 : List S45) (A1 : Option Addr) (c1 : Nat) (l1 : List S45) (w : World)
     (hr0 : Kd.C k45 w A0 l0.length l0) (hc0 : l0.length ≤ c0) (hr1 : Kd.C k45 w A1 l1.length l1) (hc1 : l1.length ≤ c1) (h0 : l0.length ≤ 1048576) (h1 : l1.length ≤ 1048576)
     (hx0 : w.cell? ⟨B0, 0, none⟩ = some (.slice A0 l0.length c0)) (hx1 : w.cell? ⟨B1, 0, none⟩ = some (.slice A1 l1.length c1)) (hB1 : B1 < w.heap.size) (n : Int) :
     Calls Try.prog 42 #[.int .i64 n, .pointer (some ⟨B0, 0, none⟩), .pointer (some ⟨B1, 0, none⟩)] w fun e w' => e = .returned (.bool (holds l0 l1 n)) ∧ Below w.heap.size w w' := by
   obtain ⟨k0, e0⟩ := Ev.rounds (impl_SetHas_ev l0 h0 n)
   obtain ⟨k1, e1⟩ := Ev.rounds (impl_SetHas_ev l1 h1 n)
   have G0 := Aside0.mk (impl_SetHas.calls k0 A0 c0 l0 n _ w hr0 hc0 e0)
   have G1 := Aside0.mk (fun (W : World) (hb : Below w.heap.size w W) => impl_SetHas.calls k1 A1 c1 l1 n _ W (Kd.C_below hr1 hb) hc1 e1)
   unfold holds
   generalize hasL (l0.map pr) n = b0 at G0 ⊢
   generalize hasL (l1.map pr) n = b1 at G1 ⊢
   clear e0 e1 hr0 hr1 h0 h1 hc0 hc1
   go_enter Try.func42, Try.ntmps42
   cases b0
   · go_wp2_with (first | (go_at_call 15; refine G0.out.mono ?_; rintro e W1 ⟨rfl, HB⟩; have hy1 : W1.cell? ⟨B1, 0, none⟩ = some (.slice A1 l1.length c1) := (HB.cell (p := ⟨B1, 0, none⟩) hB1).trans hx1; have K1 := Aside0.mk (G1.out W1 HB); have HBa := Aside0.mk HB; clear HB G0 G1) | (go_at_call 15; refine K1.out.mono ?_; rintro e W2 ⟨rfl, HB2⟩; have HBb := Aside0.mk (below_step HBa.out HB2); clear HB2 K1))
     go_ret
     exact ⟨by simp, HBb.out⟩
   · go_wp2_with (first | (go_at_call 15; refine G0.out.mono ?_; rintro e W1 ⟨rfl, HB⟩; have hy1 : W1.cell? ⟨B1, 0, none⟩ = some (.slice A1 l1.length c1) := (HB.cell (p := ⟨B1, 0, none⟩) hB1).trans hx1; have K1 := Aside0.mk (G1.out W1 HB); have HBa := Aside0.mk HB; clear HB G0 G1))
     go_ret
     exact ⟨by simp, HBa.out⟩
 end
 end impl_SetJoin
def impl_SetJoin.f (k : Nat) (l0 l1 : List S45) : Option (List S45 × Bool) :=
  if l0.length ≤ 1048576 ∧ l1.length ≤ 1048576 then
    (impl_setOf.f k ⟨impl_SetJoin.holds l0 l1, 0, #[]⟩).bind fun q => if q.2 = true then (impl_SetOk.f k l0).bind fun b => if b = true then (impl_SetOk.f k l1).bind fun c => if c = true then some (q.1, true) else some ([], false) else some ([], false) else some ([], false)
  else none
theorem impl_SetJoin.mono : ∀ a0 a1 k, LeO (impl_SetJoin.f k a0 a1) (impl_SetJoin.f (k + 1) a0 a1) := by
  intro a0 a1 k
  unfold impl_SetJoin.f
  exact LeO.ite (LeO.bind (impl_setOf.mono _ _) (fun _ => LeO.ite (LeO.bind (impl_SetOk.mono _ _) (fun _ => LeO.ite (LeO.bind (impl_SetOk.mono _ _) (fun _ => LeO.refl _)) (LeO.refl _))) (LeO.refl _))) (LeO.refl _)
theorem impl_SetJoin.calls (k : Nat) (A0 : Option Addr) (c0 : Nat) (l0 : List (S45)) (A1 : Option Addr) (c1 : Nat) (l1 : List (S45)) (r1 : List (S45)) (r2 : Bool) (w : World) (hr0 : Kd.C k45 w A0 l0.length l0) (hc0 : l0.length ≤ c0) (hr1 : Kd.C k45 w A1 l1.length l1) (hc1 : l1.length ≤ c1) (h : impl_SetJoin.f k l0 l1 = some (r1, r2)) :
    Calls Try.prog 22 #[.slice A0 l0.length c0, .slice A1 l1.length c1] w fun e w' => ∃ v0_ : Value, e = .returned (.tuple #[v0_, .bool r2]) ∧ Kd.R k45 45 w' w.heap.size (fun _ => True) v0_ r1 ∧ Below w.heap.size w w' := by
  unfold impl_SetJoin.f at h
  by_cases hl : l0.length ≤ 1048576 ∧ l1.length ≤ 1048576
  case neg => rw [if_neg hl] at h; cases h
  rw [if_pos hl] at h
  obtain ⟨⟨q1, q2⟩, hq, h⟩ := Option.bind_eq_some_iff.mp h
  dsimp only at h
  have hb1 : Below w.heap.size w (w.alloc (.cells #[.slice A0 l0.length c0] 25)) := below_alloc (Below.refl _ _) _
  have hb2 : Below w.heap.size w ((w.alloc (.cells #[.slice A0 l0.length c0] 25)).alloc (.cells #[.slice A1 l1.length c1] 25)) := below_alloc hb1 _
  have hx0 : ((w.alloc (.cells #[.slice A0 l0.length c0] 25)).alloc (.cells #[.slice A1 l1.length c1] 25)).cell? ⟨w.heap.size, 0, none⟩ = some (.slice A0 l0.length c0) := by simp
  have hx1 : ((w.alloc (.cells #[.slice A0 l0.length c0] 25)).alloc (.cells #[.slice A1 l1.length c1] 25)).cell? ⟨w.heap.size + 1, 0, none⟩ = some (.slice A1 l1.length c1) := by simp
  have hs0 : w.heap.size < ((w.alloc (.cells #[.slice A0 l0.length c0] 25)).alloc (.cells #[.slice A1 l1.length c1] 25)).heap.size := by simp; omega
  have hs1 : w.heap.size + 1 < ((w.alloc (.cells #[.slice A0 l0.length c0] 25)).alloc (.cells #[.slice A1 l1.length c1] 25)).heap.size := by simp
  have hpv : PredOk ((w.alloc (.cells #[.slice A0 l0.length c0] 25)).alloc (.cells #[.slice A1 l1.length c1] 25)) ⟨impl_SetJoin.holds l0 l1, 42, #[.pointer (some ⟨w.heap.size, 0, none⟩), .pointer (some ⟨w.heap.size + 1, 0, none⟩)]⟩ :=
    ⟨enters_of Try.func42 (by kernel_rfl) rfl, fun W x hb => by
      show Calls Try.prog 42 #[.int .i64 x, .pointer (some ⟨w.heap.size, 0, none⟩), .pointer (some ⟨w.heap.size + 1, 0, none⟩)] W _
      exact impl_SetJoin.closure _ _ A0 c0 l0 A1 c1 l1 W (Kd.C_below hr0 (below_step hb2 hb)) hc0 (Kd.C_below hr1 (below_step hb2 hb)) hc1 hl.1 hl.2 ((hb.cell (p := ⟨w.heap.size, 0, none⟩) hs0).trans hx0) ((hb.cell (p := ⟨w.heap.size + 1, 0, none⟩) hs1).trans hx1) (Nat.lt_of_lt_of_le hs1 (below_size hb)) x⟩
  have GS := Aside0.mk (impl_setOf.calls k ⟨impl_SetJoin.holds l0 l1, 42, #[.pointer (some ⟨w.heap.size, 0, none⟩), .pointer (some ⟨w.heap.size + 1, 0, none⟩)]⟩ q1 q2 ((w.alloc (.cells #[.slice A0 l0.length c0] 25)).alloc (.cells #[.slice A1 l1.length c1] 25)) hpv (by unfold impl_setOf.f; rw [impl_SetJoin.pv _ 42 0 _ #[]]; exact hq))
  have HB2 := Aside0.mk hb2
  have HS0 := Aside0.mk hs0
  have HS1 := Aside0.mk hs1
  have HX0 := Aside0.mk hx0
  have HX1 := Aside0.mk hx1
  have L0 := Aside0.mk (fun (b : Bool) (e : impl_SetOk.f k l0 = some b) (W : World) (hb : Below w.heap.size w W) => impl_SetOk.calls k A0 c0 l0 b W (Kd.C_below hr0 hb) hc0 e)
  have L1 := Aside0.mk (fun (b : Bool) (e : impl_SetOk.f k l1 = some b) (W : World) (hb : Below w.heap.size w W) => impl_SetOk.calls k A1 c1 l1 b W (Kd.C_below hr1 hb) hc1 e)
  clear hpv hs0 hs1 hb1 hb2 hx0 hx1 hr0 hr1 hq hc0 hc1 hl
  cases q2
  · rw [if_neg (by decide)] at h
    obtain ⟨rfl, rfl⟩ := Prod.mk.inj (Option.some.inj h)
    clear h L0 L1
    go_enter Try.func22, Try.ntmps22
    go_wp2_with (first | (go_at_call 41; refine GS.out.mono ?_; rintro e W1 ⟨v0_, rfl, HR, HB⟩; have hy0 : W1.cell? ⟨w.heap.size, 0, none⟩ = some (.slice A0 l0.length c0) := (HB.cell (p := ⟨w.heap.size, 0, none⟩) HS0.out).trans HX0.out; have HY1 := Aside0.mk ((HB.cell (p := ⟨w.heap.size + 1, 0, none⟩) HS1.out).trans HX1.out : W1.cell? ⟨w.heap.size + 1, 0, none⟩ = some (.slice A1 l1.length c1)); have HRa := Aside0.mk (Kd.R_lower HR (below_size HB2.out)); have HBa := Aside0.mk (below_step HB2.out HB); have HBc := Aside0.mk HB; clear HR HB GS))
    go_ret2
    exact ⟨_, rfl, Kd.R_nil _ _ _ _ _, HBa.out⟩
  rw [if_pos rfl] at h
  obtain ⟨b, hb, h⟩ := Option.bind_eq_some_iff.mp h
  have K0 := Aside0.mk (L0.out b hb)
  clear L0 hb
  cases b
  · rw [if_neg (by decide)] at h
    obtain ⟨rfl, rfl⟩ := Prod.mk.inj (Option.some.inj h)
    clear h L1
    go_enter Try.func22, Try.ntmps22
    go_wp2_with (first | (go_at_call 41; refine GS.out.mono ?_; rintro e W1 ⟨v0_, rfl, HR, HB⟩; have hy0 : W1.cell? ⟨w.heap.size, 0, none⟩ = some (.slice A0 l0.length c0) := (HB.cell (p := ⟨w.heap.size, 0, none⟩) HS0.out).trans HX0.out; have HY1 := Aside0.mk ((HB.cell (p := ⟨w.heap.size + 1, 0, none⟩) HS1.out).trans HX1.out : W1.cell? ⟨w.heap.size + 1, 0, none⟩ = some (.slice A1 l1.length c1)); have HRa := Aside0.mk (Kd.R_lower HR (below_size HB2.out)); have HBa := Aside0.mk (below_step HB2.out HB); have HBc := Aside0.mk HB; clear HR HB GS) | (go_at_call 18; refine (K0.out _ HBa.out).mono ?_; rintro e W2 ⟨rfl, HB⟩; have hz1 : W2.cell? ⟨w.heap.size + 1, 0, none⟩ = some (.slice A1 l1.length c1) := (HB.cell (p := ⟨w.heap.size + 1, 0, none⟩) (Nat.lt_of_lt_of_le HS1.out (below_size HBc.out))).trans HY1.out; have HRb := Aside0.mk (Kd.R_below HRa.out HB); have HBb := Aside0.mk (below_step HBa.out HB); clear HB K0))
    go_ret2
    exact ⟨_, rfl, Kd.R_nil _ _ _ _ _, HBb.out⟩
  rw [if_pos rfl] at h
  obtain ⟨c, hc, h⟩ := Option.bind_eq_some_iff.mp h
  have K1 := Aside0.mk (L1.out c hc)
  clear L1 hc
  cases c
  · rw [if_neg (by decide)] at h
    obtain ⟨rfl, rfl⟩ := Prod.mk.inj (Option.some.inj h)
    clear h
    go_enter Try.func22, Try.ntmps22
    go_wp2_with (first | (go_at_call 41; refine GS.out.mono ?_; rintro e W1 ⟨v0_, rfl, HR, HB⟩; have hy0 : W1.cell? ⟨w.heap.size, 0, none⟩ = some (.slice A0 l0.length c0) := (HB.cell (p := ⟨w.heap.size, 0, none⟩) HS0.out).trans HX0.out; have HY1 := Aside0.mk ((HB.cell (p := ⟨w.heap.size + 1, 0, none⟩) HS1.out).trans HX1.out : W1.cell? ⟨w.heap.size + 1, 0, none⟩ = some (.slice A1 l1.length c1)); have HRa := Aside0.mk (Kd.R_lower HR (below_size HB2.out)); have HBa := Aside0.mk (below_step HB2.out HB); have HBc := Aside0.mk HB; clear HR HB GS) | (go_at_call 18; refine (K0.out _ HBa.out).mono ?_; rintro e W2 ⟨rfl, HB⟩; have hz1 : W2.cell? ⟨w.heap.size + 1, 0, none⟩ = some (.slice A1 l1.length c1) := (HB.cell (p := ⟨w.heap.size + 1, 0, none⟩) (Nat.lt_of_lt_of_le HS1.out (below_size HBc.out))).trans HY1.out; have HRb := Aside0.mk (Kd.R_below HRa.out HB); have HBb := Aside0.mk (below_step HBa.out HB); clear HB K0) | (go_at_call 18; refine (K1.out _ HBb.out).mono ?_; rintro e W3 ⟨rfl, HB⟩; have HRc := Aside0.mk (Kd.R_below HRb.out HB); have HBd := Aside0.mk (below_step HBb.out HB); clear HB K1))
    go_ret2
    exact ⟨_, rfl, Kd.R_nil _ _ _ _ _, HBd.out⟩
  · rw [if_pos rfl] at h
    obtain ⟨rfl, rfl⟩ := Prod.mk.inj (Option.some.inj h)
    clear h
    go_enter Try.func22, Try.ntmps22
    go_wp2_with (first | (go_at_call 41; refine GS.out.mono ?_; rintro e W1 ⟨v0_, rfl, HR, HB⟩; have hy0 : W1.cell? ⟨w.heap.size, 0, none⟩ = some (.slice A0 l0.length c0) := (HB.cell (p := ⟨w.heap.size, 0, none⟩) HS0.out).trans HX0.out; have HY1 := Aside0.mk ((HB.cell (p := ⟨w.heap.size + 1, 0, none⟩) HS1.out).trans HX1.out : W1.cell? ⟨w.heap.size + 1, 0, none⟩ = some (.slice A1 l1.length c1)); have HRa := Aside0.mk (Kd.R_lower HR (below_size HB2.out)); have HBa := Aside0.mk (below_step HB2.out HB); have HBc := Aside0.mk HB; clear HR HB GS) | (go_at_call 18; refine (K0.out _ HBa.out).mono ?_; rintro e W2 ⟨rfl, HB⟩; have hz1 : W2.cell? ⟨w.heap.size + 1, 0, none⟩ = some (.slice A1 l1.length c1) := (HB.cell (p := ⟨w.heap.size + 1, 0, none⟩) (Nat.lt_of_lt_of_le HS1.out (below_size HBc.out))).trans HY1.out; have HRb := Aside0.mk (Kd.R_below HRa.out HB); have HBb := Aside0.mk (below_step HBa.out HB); clear HB K0) | (go_at_call 18; refine (K1.out _ HBb.out).mono ?_; rintro e W3 ⟨rfl, HB⟩; have HRc := Aside0.mk (Kd.R_below HRb.out HB); have HBd := Aside0.mk (below_step HBb.out HB); clear HB K1))
    go_ret2
    exact ⟨_, rfl, HRc.out, HBd.out⟩


-- NOT PRINTED: function 43 (impl_SetMeet_1)

/-! ### impl_SetMeet: function 26, given by hand -/
 namespace impl_SetMeet
 section
 open Go.Proofs.Ythngecooaddddaa.Gen
 theorem impl_within_ev (a b c : Int) : impl_within.f a b c = some (decide (b ≤ a ∧ a ≤ c)) := by
   unfold impl_within.f
   by_cases h : a ≥ b
   · rw [if_pos h]; congr 1; simp; omega
   · rw [if_neg h]; congr 1; simp; omega
 
 /-- a range as a pair -/
 def pr (x : S45) : Int × Int := (x.f0, x.f1)
 theorem rd45_at (l : List S45) (i : Nat) (h : i < l.length) : rd_T45 l (i : Int) = l[i] := by
   unfold rd_T45
   rw [Int.toNat_natCast, List.getD_eq_getElem?_getD, List.getElem?_eq_getElem h]; rfl
 theorem impl_SetHas_l0 (l : List S45) (hl : l.length ≤ 1048576) (n : Int) : ∀ (d i : Nat), i + d = l.length → Ev (fun k => impl_SetHas.l0 k n l (l.length : Int) (i : Int)) (hasL ((l.drop i).map pr) n) := by
   intro d
   induction d with
   | zero =>
     intro i hi
     refine Ev.step (impl_SetHas.l0.eq_2 n l (l.length : Int) (i : Int)) (Ev.no (by omega) (Ev.const ?_))
     rw [List.drop_eq_nil_of_le (by omega)]; rfl
   | succ d ih =>
     intro i hi
     have hlt : i < l.length := by omega
     have e := rd45_at l i hlt
     refine Ev.step (impl_SetHas.l0.eq_2 n l (l.length : Int) (i : Int)) (Ev.yes (by omega) (Ev.yes (by omega) (Ev.yes (by omega) (Ev.bindc (impl_within_ev _ _ _) ?_))))
     rw [w64 (by omega) (by omega), List.drop_eq_getElem_cons hlt, ← e]
     generalize rd_T45 l (i : Int) = x
     have e2 : hasL ((x :: l.drop (i + 1)).map pr) n = (decide (x.f0 ≤ n ∧ n ≤ x.f1) || hasL ((l.drop (i + 1)).map pr) n) := rfl
     rw [e2]
     have := ih (i + 1) (by omega)
     refine Ev.ite (fun h => ?_) (fun h => ?_)
     · rw [h]; exact Ev.now _
     · rw [Bool.not_eq_true] at h
       rw [h, Bool.false_or]; exact this
 theorem impl_SetHas_ev (l : List S45) (hl : l.length ≤ 1048576) (n : Int) : Ev (fun k => impl_SetHas.f k l n) (hasL (l.map pr) n) := impl_SetHas_l0 l hl n l.length 0 (by omega)
 
 theorem pv (p : Int → Bool) (g g' : Nat) (lb lb' : Array Value) : ∀ k xs x, impl_setOf.l0 k ⟨p, g, lb⟩ xs x = impl_setOf.l0 k ⟨p, g', lb'⟩ xs x := by
   intro k
   induction k with
   | zero => intro xs x; rfl
   | succ k ih =>
     intro xs x
     simp only [impl_setOf.l0, PVcall.f, Option.bind_some, ih]
 def holds (l0 l1 : List S45) (n : Int) : Bool := hasL (l0.map pr) n && hasL (l1.map pr) n
 /-- the closure -/
 theorem closure (B0 B1 : Nat) (A0 : Option Addr) (c0 : Nat) (l0 : List S45) (A1 : Option Addr) (c1 : Nat) (l1 : List S45) (w : World)
     (hr0 : Kd.C k45 w A0 l0.length l0) (hc0 : l0.length ≤ c0) (hr1 : Kd.C k45 w A1 l1.length l1) (hc1 : l1.length ≤ c1) (h0 : l0.length ≤ 1048576) (h1 : l1.length ≤ 1048576)
     (hx0 : w.cell? ⟨B0, 0, none⟩ = some (.slice A0 l0.length c0)) (hx1 : w.cell? ⟨B1, 0, none⟩ = some (.slice A1 l1.length c1)) (hB1 : B1 < w.heap.size) (n : Int) :
     Calls Try.prog 43 #[.int .i64 n, .pointer (some ⟨B0, 0, none⟩), .pointer (some ⟨B1, 0, none⟩)] w fun e w' => e = .returned (.bool (holds l0 l1 n)) ∧ Below w.heap.size w w' := by
   obtain ⟨k0, e0⟩ := Ev.rounds (impl_SetHas_ev l0 h0 n)
   obtain ⟨k1, e1⟩ := Ev.rounds (impl_SetHas_ev l1 h1 n)
   have G0 := Aside0.mk (impl_SetHas.calls k0 A0 c0 l0 n _ w hr0 hc0 e0)
   have G1 := Aside0.mk (fun (W : World) (hb : Below w.heap.size w W) => impl_SetHas.calls k1 A1 c1 l1 n _ W (Kd.C_below hr1 hb) hc1 e1)
   unfold holds
   generalize hasL (l0.map pr) n = b0 at G0 ⊢
   generalize hasL (l1.map pr) n = b1 at G1 ⊢
   clear e0 e1 hr0 hr1 h0 h1 hc0 hc1
   go_enter Try.func43, Try.ntmps43
   cases b0
   · go_wp2_with (first | (go_at_call 15; refine G0.out.mono ?_; rintro e W1 ⟨rfl, HB⟩; have hy1 : W1.cell? ⟨B1, 0, none⟩ = some (.slice A1 l1.length c1) := (HB.cell (p := ⟨B1, 0, none⟩) hB1).trans hx1; have K1 := Aside0.mk (G1.out W1 HB); have HBa := Aside0.mk HB; clear HB G0 G1))
     go_ret
     exact ⟨by simp, HBa.out⟩
   · go_wp2_with (first | (go_at_call 15; refine G0.out.mono ?_; rintro e W1 ⟨rfl, HB⟩; have hy1 : W1.cell? ⟨B1, 0, none⟩ = some (.slice A1 l1.length c1) := (HB.cell (p := ⟨B1, 0, none⟩) hB1).trans hx1; have K1 := Aside0.mk (G1.out W1 HB); have HBa := Aside0.mk HB; clear HB G0 G1) | (go_at_call 15; refine K1.out.mono ?_; rintro e W2 ⟨rfl, HB2⟩; have HBb := Aside0.mk (below_step HBa.out HB2); clear HB2 K1))
     go_ret
     exact ⟨by simp, HBb.out⟩
 end
 end impl_SetMeet
def impl_SetMeet.f (k : Nat) (l0 l1 : List S45) : Option (List S45 × Bool) :=
  if l0.length ≤ 1048576 ∧ l1.length ≤ 1048576 then
    (impl_setOf.f k ⟨impl_SetMeet.holds l0 l1, 0, #[]⟩).bind fun q => if q.2 = true then (impl_SetOk.f k l0).bind fun b => if b = true then (impl_SetOk.f k l1).bind fun c => if c = true then some (q.1, true) else some ([], false) else some ([], false) else some ([], false)
  else none
theorem impl_SetMeet.mono : ∀ a0 a1 k, LeO (impl_SetMeet.f k a0 a1) (impl_SetMeet.f (k + 1) a0 a1) := by
  intro a0 a1 k
  unfold impl_SetMeet.f
  exact LeO.ite (LeO.bind (impl_setOf.mono _ _) (fun _ => LeO.ite (LeO.bind (impl_SetOk.mono _ _) (fun _ => LeO.ite (LeO.bind (impl_SetOk.mono _ _) (fun _ => LeO.refl _)) (LeO.refl _))) (LeO.refl _))) (LeO.refl _)
theorem impl_SetMeet.calls (k : Nat) (A0 : Option Addr) (c0 : Nat) (l0 : List (S45)) (A1 : Option Addr) (c1 : Nat) (l1 : List (S45)) (r1 : List (S45)) (r2 : Bool) (w : World) (hr0 : Kd.C k45 w A0 l0.length l0) (hc0 : l0.length ≤ c0) (hr1 : Kd.C k45 w A1 l1.length l1) (hc1 : l1.length ≤ c1) (h : impl_SetMeet.f k l0 l1 = some (r1, r2)) :
    Calls Try.prog 26 #[.slice A0 l0.length c0, .slice A1 l1.length c1] w fun e w' => ∃ v0_ : Value, e = .returned (.tuple #[v0_, .bool r2]) ∧ Kd.R k45 45 w' w.heap.size (fun _ => True) v0_ r1 ∧ Below w.heap.size w w' := by
  unfold impl_SetMeet.f at h
  by_cases hl : l0.length ≤ 1048576 ∧ l1.length ≤ 1048576
  case neg => rw [if_neg hl] at h; cases h
  rw [if_pos hl] at h
  obtain ⟨⟨q1, q2⟩, hq, h⟩ := Option.bind_eq_some_iff.mp h
  dsimp only at h
  have hb1 : Below w.heap.size w (w.alloc (.cells #[.slice A0 l0.length c0] 25)) := below_alloc (Below.refl _ _) _
  have hb2 : Below w.heap.size w ((w.alloc (.cells #[.slice A0 l0.length c0] 25)).alloc (.cells #[.slice A1 l1.length c1] 25)) := below_alloc hb1 _
  have hx0 : ((w.alloc (.cells #[.slice A0 l0.length c0] 25)).alloc (.cells #[.slice A1 l1.length c1] 25)).cell? ⟨w.heap.size, 0, none⟩ = some (.slice A0 l0.length c0) := by simp
  have hx1 : ((w.alloc (.cells #[.slice A0 l0.length c0] 25)).alloc (.cells #[.slice A1 l1.length c1] 25)).cell? ⟨w.heap.size + 1, 0, none⟩ = some (.slice A1 l1.length c1) := by simp
  have hs0 : w.heap.size < ((w.alloc (.cells #[.slice A0 l0.length c0] 25)).alloc (.cells #[.slice A1 l1.length c1] 25)).heap.size := by simp; omega
  have hs1 : w.heap.size + 1 < ((w.alloc (.cells #[.slice A0 l0.length c0] 25)).alloc (.cells #[.slice A1 l1.length c1] 25)).heap.size := by simp
  have hpv : PredOk ((w.alloc (.cells #[.slice A0 l0.length c0] 25)).alloc (.cells #[.slice A1 l1.length c1] 25)) ⟨impl_SetMeet.holds l0 l1, 43, #[.pointer (some ⟨w.heap.size, 0, none⟩), .pointer (some ⟨w.heap.size + 1, 0, none⟩)]⟩ :=
    ⟨enters_of Try.func43 (by kernel_rfl) rfl, fun W x hb => by
      show Calls Try.prog 43 #[.int .i64 x, .pointer (some ⟨w.heap.size, 0, none⟩), .pointer (some ⟨w.heap.size + 1, 0, none⟩)] W _
      exact impl_SetMeet.closure _ _ A0 c0 l0 A1 c1 l1 W (Kd.C_below hr0 (below_step hb2 hb)) hc0 (Kd.C_below hr1 (below_step hb2 hb)) hc1 hl.1 hl.2 ((hb.cell (p := ⟨w.heap.size, 0, none⟩) hs0).trans hx0) ((hb.cell (p := ⟨w.heap.size + 1, 0, none⟩) hs1).trans hx1) (Nat.lt_of_lt_of_le hs1 (below_size hb)) x⟩
  have GS := Aside0.mk (impl_setOf.calls k ⟨impl_SetMeet.holds l0 l1, 43, #[.pointer (some ⟨w.heap.size, 0, none⟩), .pointer (some ⟨w.heap.size + 1, 0, none⟩)]⟩ q1 q2 ((w.alloc (.cells #[.slice A0 l0.length c0] 25)).alloc (.cells #[.slice A1 l1.length c1] 25)) hpv (by unfold impl_setOf.f; rw [impl_SetMeet.pv _ 43 0 _ #[]]; exact hq))
  have HB2 := Aside0.mk hb2
  have HS0 := Aside0.mk hs0
  have HS1 := Aside0.mk hs1
  have HX0 := Aside0.mk hx0
  have HX1 := Aside0.mk hx1
  have L0 := Aside0.mk (fun (b : Bool) (e : impl_SetOk.f k l0 = some b) (W : World) (hb : Below w.heap.size w W) => impl_SetOk.calls k A0 c0 l0 b W (Kd.C_below hr0 hb) hc0 e)
  have L1 := Aside0.mk (fun (b : Bool) (e : impl_SetOk.f k l1 = some b) (W : World) (hb : Below w.heap.size w W) => impl_SetOk.calls k A1 c1 l1 b W (Kd.C_below hr1 hb) hc1 e)
  clear hpv hs0 hs1 hb1 hb2 hx0 hx1 hr0 hr1 hq hc0 hc1 hl
  cases q2
  · rw [if_neg (by decide)] at h
    obtain ⟨rfl, rfl⟩ := Prod.mk.inj (Option.some.inj h)
    clear h L0 L1
    go_enter Try.func26, Try.ntmps26
    go_wp2_with (first | (go_at_call 41; refine GS.out.mono ?_; rintro e W1 ⟨v0_, rfl, HR, HB⟩; have hy0 : W1.cell? ⟨w.heap.size, 0, none⟩ = some (.slice A0 l0.length c0) := (HB.cell (p := ⟨w.heap.size, 0, none⟩) HS0.out).trans HX0.out; have HY1 := Aside0.mk ((HB.cell (p := ⟨w.heap.size + 1, 0, none⟩) HS1.out).trans HX1.out : W1.cell? ⟨w.heap.size + 1, 0, none⟩ = some (.slice A1 l1.length c1)); have HRa := Aside0.mk (Kd.R_lower HR (below_size HB2.out)); have HBa := Aside0.mk (below_step HB2.out HB); have HBc := Aside0.mk HB; clear HR HB GS))
    go_ret2
    exact ⟨_, rfl, Kd.R_nil _ _ _ _ _, HBa.out⟩
  rw [if_pos rfl] at h
  obtain ⟨b, hb, h⟩ := Option.bind_eq_some_iff.mp h
  have K0 := Aside0.mk (L0.out b hb)
  clear L0 hb
  cases b
  · rw [if_neg (by decide)] at h
    obtain ⟨rfl, rfl⟩ := Prod.mk.inj (Option.some.inj h)
    clear h L1
    go_enter Try.func26, Try.ntmps26
    go_wp2_with (first | (go_at_call 41; refine GS.out.mono ?_; rintro e W1 ⟨v0_, rfl, HR, HB⟩; have hy0 : W1.cell? ⟨w.heap.size, 0, none⟩ = some (.slice A0 l0.length c0) := (HB.cell (p := ⟨w.heap.size, 0, none⟩) HS0.out).trans HX0.out; have HY1 := Aside0.mk ((HB.cell (p := ⟨w.heap.size + 1, 0, none⟩) HS1.out).trans HX1.out : W1.cell? ⟨w.heap.size + 1, 0, none⟩ = some (.slice A1 l1.length c1)); have HRa := Aside0.mk (Kd.R_lower HR (below_size HB2.out)); have HBa := Aside0.mk (below_step HB2.out HB); have HBc := Aside0.mk HB; clear HR HB GS) | (go_at_call 18; refine (K0.out _ HBa.out).mono ?_; rintro e W2 ⟨rfl, HB⟩; have hz1 : W2.cell? ⟨w.heap.size + 1, 0, none⟩ = some (.slice A1 l1.length c1) := (HB.cell (p := ⟨w.heap.size + 1, 0, none⟩) (Nat.lt_of_lt_of_le HS1.out (below_size HBc.out))).trans HY1.out; have HRb := Aside0.mk (Kd.R_below HRa.out HB); have HBb := Aside0.mk (below_step HBa.out HB); clear HB K0))
    go_ret2
    exact ⟨_, rfl, Kd.R_nil _ _ _ _ _, HBb.out⟩
  rw [if_pos rfl] at h
  obtain ⟨c, hc, h⟩ := Option.bind_eq_some_iff.mp h
  have K1 := Aside0.mk (L1.out c hc)
  clear L1 hc
  cases c
  · rw [if_neg (by decide)] at h
    obtain ⟨rfl, rfl⟩ := Prod.mk.inj (Option.some.inj h)
    clear h
    go_enter Try.func26, Try.ntmps26
    go_wp2_with (first | (go_at_call 41; refine GS.out.mono ?_; rintro e W1 ⟨v0_, rfl, HR, HB⟩; have hy0 : W1.cell? ⟨w.heap.size, 0, none⟩ = some (.slice A0 l0.length c0) := (HB.cell (p := ⟨w.heap.size, 0, none⟩) HS0.out).trans HX0.out; have HY1 := Aside0.mk ((HB.cell (p := ⟨w.heap.size + 1, 0, none⟩) HS1.out).trans HX1.out : W1.cell? ⟨w.heap.size + 1, 0, none⟩ = some (.slice A1 l1.length c1)); have HRa := Aside0.mk (Kd.R_lower HR (below_size HB2.out)); have HBa := Aside0.mk (below_step HB2.out HB); have HBc := Aside0.mk HB; clear HR HB GS) | (go_at_call 18; refine (K0.out _ HBa.out).mono ?_; rintro e W2 ⟨rfl, HB⟩; have hz1 : W2.cell? ⟨w.heap.size + 1, 0, none⟩ = some (.slice A1 l1.length c1) := (HB.cell (p := ⟨w.heap.size + 1, 0, none⟩) (Nat.lt_of_lt_of_le HS1.out (below_size HBc.out))).trans HY1.out; have HRb := Aside0.mk (Kd.R_below HRa.out HB); have HBb := Aside0.mk (below_step HBa.out HB); clear HB K0) | (go_at_call 18; refine (K1.out _ HBb.out).mono ?_; rintro e W3 ⟨rfl, HB⟩; have HRc := Aside0.mk (Kd.R_below HRb.out HB); have HBd := Aside0.mk (below_step HBb.out HB); clear HB K1))
    go_ret2
    exact ⟨_, rfl, Kd.R_nil _ _ _ _ _, HBd.out⟩
  · rw [if_pos rfl] at h
    obtain ⟨rfl, rfl⟩ := Prod.mk.inj (Option.some.inj h)
    clear h
    go_enter Try.func26, Try.ntmps26
    go_wp2_with (first | (go_at_call 41; refine GS.out.mono ?_; rintro e W1 ⟨v0_, rfl, HR, HB⟩; have hy0 : W1.cell? ⟨w.heap.size, 0, none⟩ = some (.slice A0 l0.length c0) := (HB.cell (p := ⟨w.heap.size, 0, none⟩) HS0.out).trans HX0.out; have HY1 := Aside0.mk ((HB.cell (p := ⟨w.heap.size + 1, 0, none⟩) HS1.out).trans HX1.out : W1.cell? ⟨w.heap.size + 1, 0, none⟩ = some (.slice A1 l1.length c1)); have HRa := Aside0.mk (Kd.R_lower HR (below_size HB2.out)); have HBa := Aside0.mk (below_step HB2.out HB); have HBc := Aside0.mk HB; clear HR HB GS) | (go_at_call 18; refine (K0.out _ HBa.out).mono ?_; rintro e W2 ⟨rfl, HB⟩; have hz1 : W2.cell? ⟨w.heap.size + 1, 0, none⟩ = some (.slice A1 l1.length c1) := (HB.cell (p := ⟨w.heap.size + 1, 0, none⟩) (Nat.lt_of_lt_of_le HS1.out (below_size HBc.out))).trans HY1.out; have HRb := Aside0.mk (Kd.R_below HRa.out HB); have HBb := Aside0.mk (below_step HBa.out HB); clear HB K0) | (go_at_call 18; refine (K1.out _ HBb.out).mono ?_; rintro e W3 ⟨rfl, HB⟩; have HRc := Aside0.mk (Kd.R_below HRb.out HB); have HBd := Aside0.mk (below_step HBb.out HB); clear HB K1))
    go_ret2
    exact ⟨_, rfl, HRc.out, HBd.out⟩


/-! ### laws_big: function 31 -/
def laws_big.f (l0 : List Int) : Option (Bool) := some (decide ((l0.length : Int) > 1048576))
set_option maxHeartbeats 8000000 in
set_option maxRecDepth 100000 in
theorem laws_big.calls (A0 : Option Addr) (c0 : Nat) (l0 : List Int) (r : Bool) (w : World) (hr0 : Kd.C (Kd.int .u8) w A0 l0.length l0) (hc0 : l0.length ≤ c0) (h : laws_big.f l0 = some r) :
    Calls Try.prog 31 #[.slice A0 l0.length c0] w fun e w' => e = .returned (.bool r) ∧ Drawn0 w w' := by
  have HR0 := Aside0.mk hr0
  have HC0 := Aside0.mk hc0
  clear hr0 hc0
  have H : (some (decide ((l0.length : Int) > 1048576))) = some r := h
  clear h
  obtain rfl := Option.some.inj H
  go_enter Try.func31, Try.ntmps31
  go_wp2
  go_ret
  exact ⟨by first | rfl | (simp; done) | (simp [*]; done), by repeat (first | exact Drawn0.refl _ | apply Drawn0.step)⟩

/-- A state of type 64 at block g of W; what its slices lead to came in by w0. -/
def IsS64 (w0 W : World) (g : Nat) (f0 : List Int) (f1 : Int) (f2 : Int) : Prop := ∃ A0 c0, W.heap[g]? = some (.cells #[.slice A0 f0.length c0, .int .i64 f1, .int .i64 f2] 64 (0, 0)) ∧ w0.heap.size ≤ g ∧ Kd.C (Kd.int .u8) w0 A0 f0.length f0
theorem IsS64.grown {w0 W : World} {g : Nat} {f0 : List Int} {f1 : Int} {f2 : Int} {W1 : World} {row : Option Nat} (h : IsS64 w0 W g f0 f1 f2) (hw : W.grownBy W1 row) (hne : some g ≠ row) : IsS64 w0 W1 g f0 f1 f2 := by
  obtain ⟨A0, c0, hb, hg, hr0⟩ := h
  exact ⟨A0, c0, blk_grown hb hw hne, hg, hr0⟩
theorem IsS64.own_neN {w0 W : World} {g : Nat} {f0 : List Int} {f1 : Int} {f2 : Int} {α : Type} {d : Kd α} {e : Nat} {base : Nat} {ok : Nat → Prop} {v : Value} {xs : List α} (h : IsS64 w0 W g f0 f1 f2) (ho : Kd.N d e W base ok v xs) (ht : e ≠ 64) : some g ≠ v.ownBlock := by
  obtain ⟨A0, c0, hb, hg, hr0⟩ := h
  exact Kd.N_ne ho hb ht
theorem IsS64.fresh {w0 W : World} {g : Nat} {f0 : List Int} {f1 : Int} {f2 : Int} (h : IsS64 w0 W g f0 f1 f2) : ∀ k, W.heap.size ≤ k → k ≠ g := by
  obtain ⟨A0, c0, hb, hg, hr0⟩ := h
  exact Kd.freshB hb
theorem IsS64.kept {w0 W : World} {g : Nat} {f0 : List Int} {f1 : Int} {f2 : Int} {W1 : World} {S : Nat → Prop} (h : IsS64 w0 W g f0 f1 f2) (hk : Kept W W1 S) (hne : ¬ S g) : IsS64 w0 W1 g f0 f1 f2 := by
  obtain ⟨A0, c0, hb, hg, hr0⟩ := h
  exact ⟨A0, c0, blk_kept hb hk hne, hg, hr0⟩
theorem IsS64.below {w0 W : World} {g : Nat} {f0 : List Int} {f1 : Int} {f2 : Int} {W1 : World} (h : IsS64 w0 W g f0 f1 f2) (hw : Below W.heap.size W W1) : IsS64 w0 W1 g f0 f1 f2 := h.grown (grown_of_below hw none) (by simp)
theorem IsS64.alloc {w0 W : World} {g : Nat} {f0 : List Int} {f1 : Int} {f2 : Int} (h : IsS64 w0 W g f0 f1 f2) (o : Obj) : IsS64 w0 (W.alloc o) g f0 f1 f2 := h.below (below_alloc (Below.refl _ _) o)
theorem IsS64.drewN {w0 W : World} {g : Nat} {f0 : List Int} {f1 : Int} {f2 : Int} (h : IsS64 w0 W g f0 f1 f2) (m : Nat) : IsS64 w0 (W.drewN m) g f0 f1 f2 := h
theorem IsS64.drew {w0 W : World} {g : Nat} {f0 : List Int} {f1 : Int} {f2 : Int} (h : IsS64 w0 W g f0 f1 f2) : IsS64 w0 W.drew g f0 f1 f2 := h
theorem IsS64.at_ {w0 W : World} {g : Nat} {f0 : List Int} {f1 : Int} {f2 : Int} {w' : World} {m : Nat} (hq : W.drewN m = w') (h : IsS64 w0 W g f0 f1 f2) : IsS64 w0 w' g f0 f1 f2 := by subst hq; exact IsS64.drewN h m
theorem IsS64.apart {w0 W : World} {g : Nat} {f0 : List Int} {f1 : Int} {f2 : Int} {α : Type} {d : Kd α} {e : Nat} {base : Nat} {ok : Nat → Prop} {v : Value} {xs : List α} (h : IsS64 w0 W g f0 f1 f2) (ho : d.R e W base ok v xs) (ht : ∀ q, q ∈ e :: d.E → q ≠ 64) : d.R e W base (fun k => ok k ∧ k ≠ g) v xs := by
  obtain ⟨A0, c0, hb, hg, hr0⟩ := h
  exact Kd.R_types ho hb ht
theorem IsS64.own_ne {w0 W : World} {g : Nat} {f0 : List Int} {f1 : Int} {f2 : Int} {α : Type} {d : Kd α} {e : Nat} {base : Nat} {ok : Nat → Prop} {v : Value} {xs : List α} (h : IsS64 w0 W g f0 f1 f2) (ho : d.R e W base ok v xs) (ht : e ≠ 64) : some g ≠ v.ownBlock := by
  obtain ⟨A0, c0, hb, hg, hr0⟩ := h
  exact Kd.R_ne ho hb ht
theorem IsS64.apartQ {w0 W : World} {g : Nat} {f0 : List Int} {f1 : Int} {f2 : Int} {α : Type} {d : Kd α} {e : Nat} {base : Nat} {ok : Nat → Prop} {v : Value} {xs : List α} (h : IsS64 w0 W g f0 f1 f2) (ho : d.Q e W base ok v xs) (ht : ∀ q, q ∈ e :: d.E → q ≠ 64) : d.Q e W base (fun k => ok k ∧ k ≠ g) v xs := by
  obtain ⟨A0, c0, hb, hg, hr0⟩ := h
  exact Kd.Q_types ho hb ht
theorem IsS64.own_neQ {w0 W : World} {g : Nat} {f0 : List Int} {f1 : Int} {f2 : Int} {α : Type} {d : Kd α} {e : Nat} {base : Nat} {ok : Nat → Prop} {v : Value} {xs : List α} (h : IsS64 w0 W g f0 f1 f2) (ho : d.Q e W base ok v xs) (ht : e ≠ 64) : some g ≠ v.ownBlock := by
  obtain ⟨A0, c0, hb, hg, hr0⟩ := h
  exact Kd.Q_ne ho hb ht
theorem IsS64.apartS {w0 W : World} {g : Nat} {f0 : List Int} {f1 : Int} {f2 : Int} {α : Type} {d : Kd α} {e : Nat} {base : Nat} {ok : Nat → Prop} {v : Value} {xs : List α} (h : IsS64 w0 W g f0 f1 f2) (ho : d.S e W base ok v xs) (ht : ∀ q, q ∈ e :: d.E → q ≠ 64) : d.S e W base (fun k => ok k ∧ k ≠ g) v xs := by
  obtain ⟨A0, c0, hb, hg, hr0⟩ := h
  exact Kd.S_types ho hb ht
theorem IsS64.own_neS {w0 W : World} {g : Nat} {f0 : List Int} {f1 : Int} {f2 : Int} {α : Type} {d : Kd α} {e : Nat} {base : Nat} {ok : Nat → Prop} {v : Value} {xs : List α} (h : IsS64 w0 W g f0 f1 f2) (ho : d.S e W base ok v xs) (ht : e ≠ 64) : some g ≠ v.ownBlock := by
  obtain ⟨A0, c0, hb, hg, hr0⟩ := h
  exact Kd.S_ne ho hb ht
theorem IsS64.lt {w0 W : World} {g : Nat} {f0 : List Int} {f1 : Int} {f2 : Int} (h : IsS64 w0 W g f0 f1 f2) : g < W.heap.size := by
  obtain ⟨A0, c0, hb, hg, hr0⟩ := h
  exact blk_lt hb
theorem IsS64.ge {w0 W : World} {g : Nat} {f0 : List Int} {f1 : Int} {f2 : Int} (h : IsS64 w0 W g f0 f1 f2) : w0.heap.size ≤ g := by
  obtain ⟨A0, c0, hb, hg, hr0⟩ := h
  exact hg
theorem IsS64.ne_blk {w0 W : World} {g : Nat} {f0 : List Int} {f1 : Int} {f2 : Int} {a : Nat} {cs : Array Value} {t : TypeId} {fr : Nat × Nat} (h : IsS64 w0 W g f0 f1 f2) (hb2 : W.heap[a]? = some (.cells cs t fr)) (ht : t ≠ 64) : g ≠ a := by
  obtain ⟨A0, c0, hb, hg, hr0⟩ := h
  rintro rfl
  rw [hb] at hb2
  injection hb2 with hb2
  injection hb2 with _ ht2
  exact ht ht2.symm
theorem IsS64.far {w0 W : World} {g : Nat} {f0 : List Int} {f1 : Int} {f2 : Int} {p : Addr} (h : IsS64 w0 W g f0 f1 f2) (hne : g ≠ p.block) (u : Value) : IsS64 w0 (W.setCell p u) g f0 f1 f2 := by
  obtain ⟨A0, c0, hb, hg, hr0⟩ := h
  exact ⟨A0, c0, blk_far hb hne u, hg, hr0⟩
theorem cellS64_0 {W : World} {g : Nat} {A0 : Option Addr} {c0 : Nat} {f0 : List Int} {f1 : Int} {f2 : Int} (h : W.heap[g]? = some (.cells #[.slice A0 f0.length c0, .int .i64 f1, .int .i64 f2] 64 (0, 0))) : W.cell? ⟨g, 0, none⟩ = some (.slice A0 f0.length c0) := (blk_cell h 0).trans rfl
theorem cellS64_1 {W : World} {g : Nat} {A0 : Option Addr} {c0 : Nat} {f0 : List Int} {f1 : Int} {f2 : Int} (h : W.heap[g]? = some (.cells #[.slice A0 f0.length c0, .int .i64 f1, .int .i64 f2] 64 (0, 0))) : W.cell? ⟨g, 1, none⟩ = some (.int .i64 f1) := (blk_cell h 1).trans rfl
theorem IsS64.set_1 {w0 W : World} {g : Nat} {f0 : List Int} {f1 : Int} {f2 : Int} (h : IsS64 w0 W g f0 f1 f2) (x : Int) : IsS64 w0 (W.setCell ⟨g, 1, none⟩ (.int .i64 x)) g f0 x f2 := by
  obtain ⟨A0, c0, hb, hg, hr0⟩ := h
  exact ⟨A0, c0, by simpa using blk_set hb 1 (.int .i64 x), hg, hr0⟩
theorem cellS64_2 {W : World} {g : Nat} {A0 : Option Addr} {c0 : Nat} {f0 : List Int} {f1 : Int} {f2 : Int} (h : W.heap[g]? = some (.cells #[.slice A0 f0.length c0, .int .i64 f1, .int .i64 f2] 64 (0, 0))) : W.cell? ⟨g, 2, none⟩ = some (.int .i64 f2) := (blk_cell h 2).trans rfl
theorem IsS64.set_2 {w0 W : World} {g : Nat} {f0 : List Int} {f1 : Int} {f2 : Int} (h : IsS64 w0 W g f0 f1 f2) (x : Int) : IsS64 w0 (W.setCell ⟨g, 2, none⟩ (.int .i64 x)) g f0 f1 x := by
  obtain ⟨A0, c0, hb, hg, hr0⟩ := h
  exact ⟨A0, c0, by simpa using blk_set hb 2 (.int .i64 x), hg, hr0⟩
theorem IsS64.new (w0 W : World) (A0 : Option Addr) (c0 : Nat) (f0 : List Int) (f1 : Int) (f2 : Int) (hB : Below w0.heap.size w0 W) (hr0 : Kd.C (Kd.int .u8) w0 A0 f0.length f0) : IsS64 w0 (W.alloc (.cells #[.slice A0 f0.length c0, .int .i64 f1, .int .i64 f2] 64)) W.heap.size f0 f1 f2 := ⟨A0, c0, by simpa using heap_alloc_new W _, hB.size, hr0⟩

/-! ### spec_l01New: function 48 -/
def spec_l01New.l0 : Nat → List Int → Int → Int → Option (List Int × Int × Int)
  | 0, _, _, _ => none
  | k + 1, x0, x3, x4 => if x4 < (x0.length : Int) then (if x4 < 4000 then (if 0 ≤ x4 then (spec_l01New.l0 k x0 (Go.bits .and .i64 (wrap64 ((wrap64 ((wrap64 (x3 * 131)) + (wrap64 (rd x0 x4)))) + 7)) 1073741823) (wrap64 (x4 + 1))) else (none)) else (some (x0, 0, x3))) else (some (x0, 0, x3))
def spec_l01New.f (k : Nat) (l0 : List Int) : Option (List Int × Int × Int) := spec_l01New.l0 k l0 (wrap64 (35201 + (l0.length : Int))) 0
theorem spec_l01New.mono_l : ∀ k, (∀ y0 y1 y2, LeO (spec_l01New.l0 k y0 y1 y2) (spec_l01New.l0 (k + 1) y0 y1 y2))
  | 0 => fun _ _ _ r h => by simp [spec_l01New.l0] at h
  | k + 1 => by
    have ih0 := spec_l01New.mono_l k
    · intro y0 y1 y2
      unfold spec_l01New.l0
      repeat' first
      | (with_reducible exact ih0 _ _ _)
      | (with_reducible exact LeO.refl _)
      | (with_reducible exact LeO.none _)
      | (with_reducible refine LeO.ite ?_ ?_)
      | (with_reducible refine LeO.bind ?_ (fun _ => ?_))
      | exact ih0 _ _ _
      | exact LeO.none _
      | refine LeO.ite ?_ ?_
      | refine LeO.bind ?_ (fun _ => ?_)
theorem spec_l01New.mono : ∀ a0 k, LeO (spec_l01New.f k a0) (spec_l01New.f (k + 1) a0) := by
  intro a0 k
  have ih0 := spec_l01New.mono_l k
  unfold spec_l01New.f
  repeat' first
      | (with_reducible exact ih0 _ _ _)
      | (with_reducible exact LeO.refl _)
      | (with_reducible exact LeO.none _)
      | (with_reducible refine LeO.ite ?_ ?_)
      | (with_reducible refine LeO.bind ?_ (fun _ => ?_))
      | exact ih0 _ _ _
      | exact LeO.none _
      | refine LeO.ite ?_ ?_
      | refine LeO.bind ?_ (fun _ => ?_)
set_option maxHeartbeats 8000000 in
set_option maxRecDepth 100000 in
theorem spec_l01New.calls (k : Nat) (A0 : Option Addr) (c0 : Nat) (l0 : List Int) (r1 : List Int) (r2 : Int) (r3 : Int) (w0 w : World) (hB : Below w0.heap.size w0 w) (hr0 : Kd.C (Kd.int .u8) w0 A0 l0.length l0) (hc0 : l0.length ≤ c0) (h : spec_l01New.f k l0 = some (r1, r2, r3)) :
    Calls Try.prog 48 #[.slice A0 l0.length c0] w fun e w' => ∃ g_ : Nat, e = .returned (.pointer (some ⟨g_, 0, none⟩)) ∧ IsS64 w0 w' g_ r1 r2 r3 ∧ Below w0.heap.size w0 w' ∧ Below w.heap.size w w' := by
  have hu64 := Try.underlying64
  have HR0 := Aside0.mk hr0
  have HC0 := Aside0.mk hc0
  clear hr0 hc0
  have HBW := Aside0.mk (Below.refl w.heap.size w)
  have HW0 := Aside0.mk hB.size
  have HB := Aside0.mk hB
  clear hB
  have H : (spec_l01New.l0 k l0 (wrap64 (35201 + (l0.length : Int))) 0) = some (r1, r2, r3) := h
  clear h
  have H' := Aside0.mk H
  clear H
  go_enter Try.func48, Try.ntmps48
  go_wp2
  go_loopg [3, 4] k (fun kq v3 v4 w' => ∃ (x3_1 : Int) (x4_1 : Int), v3 = .int .i64 x3_1 ∧ v4 = .int .i64 x4_1 ∧ Aside0 (spec_l01New.l0 kq l0 x3_1 x4_1 = some (r1, r2, r3)) ∧ Aside0 (kq ≤ k) ∧ Aside0 (Below w0.heap.size w0 w') ∧ Aside0 (Below w.heap.size w w'))
  case atStart => exact ⟨(wrap64 (35201 + (l0.length : Int))), (0), (by first | rfl | (simp; done) | (simp [*]; done)), (by first | rfl | (simp; done) | (simp [*]; done)), H', ⟨Nat.le_refl _⟩, ⟨by repeat (first | (with_reducible first | exact HB.out | apply below_alloc | apply pw_below_drewN | apply below_drew1) | exact HB.out)⟩, HBW⟩
  case round =>
    clear H'
    obtain ⟨x3_1, x4_1, rfl, rfl, HA, HK1, HB, HBW⟩ := hrel
    cases gk with
    | zero => exact absurd HA.out (by simp [spec_l01New.l0])
    | succ k1 =>
      have H := HA.out
      clear HA
      simp only [spec_l01New.l0] at H
      by_cases c2 : x4_1 < (l0.length : Int)
      · rw [if_pos c2] at H
        have c2b0 : decide (x4_1 < (l0.length : Int)) = true := decide_eq_true c2
        clear c2
        by_cases c3 : x4_1 < 4000
        · rw [if_pos c3] at H
          have c3b0 : decide (x4_1 < 4000) = true := decide_eq_true c3
          clear c3
          by_cases c4 : 0 ≤ x4_1
          · rw [if_pos c4] at H
            have c4b0 : decide (0 ≤ x4_1) = true := decide_eq_true c4
            clear c4
            have H' := Aside0.mk H
            clear H
            have p127 : 0 ≤ (x4_1 : Int) := of_decide_eq_true (by first | (with_reducible assumption) | assumption)
            have q127 : x4_1 < (l0.length : Int) := of_decide_eq_true (by first | (with_reducible assumption) | assumption)
            obtain ⟨ad127, e127, hx127_0⟩ := Kd.at_int HR0.out x4_1 p127 q127
            cases e127
            replace hx127_0 := pw_cell_below HB.out hx127_0
            replace p127 := eq_true p127
            replace q127 := eq_true q127
            go_wp2
            go_roundg k1
            case measure => have := HK1.out; omega
            case rel => exact ⟨(Go.bits .and .i64 (wrap64 ((wrap64 ((wrap64 (x3_1 * 131)) + (wrap64 (rd l0 x4_1)))) + 7)) 1073741823), (wrap64 (x4_1 + 1)), (by first | rfl | (simp; done) | (simp [*]; done)), (by first | rfl | (simp; done) | (simp [*]; done)), H', ⟨by have := HK1.out; omega⟩, ⟨by repeat (first | (with_reducible first | exact HB.out | apply below_alloc | apply pw_below_drewN | apply below_drew1) | exact HB.out)⟩, ⟨by repeat (first | (with_reducible first | exact HBW.out | apply below_alloc | apply pw_below_drewN | apply below_drew1) | exact HBW.out)⟩⟩
          · rw [if_neg c4] at H
            exact absurd H (by simp)
        · rw [if_neg c3] at H
          have c3b0 : decide (x4_1 < 4000) = false := decide_eq_false c3
          clear c3
          simp only [Option.some.injEq, Prod.mk.injEq] at H
          obtain ⟨rfl, rfl, rfl⟩ := H
          go_wp2_with (first | ((with_reducible refine gate_dst (N := 31) rfl ?_); refine box_event ?hg (N := 31) ?hd (cs := #[.slice A0 l0.length c0, .int .i64 0, .int .i64 x3_1]) (t := 64) ?hr ?_; (case hd => rfl); (case hg => rfl); (case hr => first | (go_simp; done) | (go_simp; rfl)); intro gb128 hg w5 hbox hb; have n0_ := Aside0.mk (below_step HBW.out hb); have n1_ := Aside0.mk (below_step (by repeat (first | (with_reducible first | exact HB.out | apply below_alloc | apply pw_below_drewN | apply below_drew1) | exact HB.out)) hb); have n2_ := Aside0.mk (hbox); have n3_ := Aside0.mk ((by rw [hg]; exact (below_size (by repeat (first | (with_reducible first | exact HBW.out | apply below_alloc | apply pw_below_drewN | apply below_drew1) | exact HBW.out))) : w.heap.size ≤ gb128)); have n4_ := Aside0.mk ((Nat.le_trans HW0.out (by rw [hg]; exact (below_size (by repeat (first | (with_reducible first | exact HBW.out | apply below_alloc | apply pw_below_drewN | apply below_drew1) | exact HBW.out))) : w.heap.size ≤ gb128) : w0.heap.size ≤ gb128)); clear HBW; clear HB; have HBW := n0_; have HB := n1_; have BK128 := n2_; have GW128 := n3_; have GE128 := n4_; clear n0_ n1_ n2_ n3_ n4_; clear hb hbox hg))
          go_ret
          exact ⟨_, rfl, (show IsS64 w0 _ gb128 l0 0 x3_1 from ⟨_, _, by (with_reducible repeat (first | refine blk_drewN ?_ _ | refine blk_drew ?_ | refine blk_alloc ?_ _)); exact BK128.out, GE128.out, HR0.out⟩), by repeat (first | (with_reducible first | exact HB.out | apply below_alloc | apply pw_below_drewN | apply below_drew1 | refine below_set ?_ GE128.out) | exact HB.out), by repeat (first | (with_reducible first | exact HBW.out | apply below_alloc | apply pw_below_drewN | apply below_drew1 | refine below_set ?_ GW128.out) | exact HBW.out)⟩
      · rw [if_neg c2] at H
        have c2b0 : decide (x4_1 < (l0.length : Int)) = false := decide_eq_false c2
        clear c2
        simp only [Option.some.injEq, Prod.mk.injEq] at H
        obtain ⟨rfl, rfl, rfl⟩ := H
        go_wp2_with (first | ((with_reducible refine gate_dst (N := 31) rfl ?_); refine box_event ?hg (N := 31) ?hd (cs := #[.slice A0 l0.length c0, .int .i64 0, .int .i64 x3_1]) (t := 64) ?hr ?_; (case hd => rfl); (case hg => rfl); (case hr => first | (go_simp; done) | (go_simp; rfl)); intro gb129 hg w6 hbox hb; have n0_ := Aside0.mk (below_step HBW.out hb); have n1_ := Aside0.mk (below_step (by repeat (first | (with_reducible first | exact HB.out | apply below_alloc | apply pw_below_drewN | apply below_drew1) | exact HB.out)) hb); have n2_ := Aside0.mk (hbox); have n3_ := Aside0.mk ((by rw [hg]; exact (below_size (by repeat (first | (with_reducible first | exact HBW.out | apply below_alloc | apply pw_below_drewN | apply below_drew1) | exact HBW.out))) : w.heap.size ≤ gb129)); have n4_ := Aside0.mk ((Nat.le_trans HW0.out (by rw [hg]; exact (below_size (by repeat (first | (with_reducible first | exact HBW.out | apply below_alloc | apply pw_below_drewN | apply below_drew1) | exact HBW.out))) : w.heap.size ≤ gb129) : w0.heap.size ≤ gb129)); clear HBW; clear HB; have HBW := n0_; have HB := n1_; have BK129 := n2_; have GW129 := n3_; have GE129 := n4_; clear n0_ n1_ n2_ n3_ n4_; clear hb hbox hg))
        go_ret
        exact ⟨_, rfl, (show IsS64 w0 _ gb129 l0 0 x3_1 from ⟨_, _, by (with_reducible repeat (first | refine blk_drewN ?_ _ | refine blk_drew ?_ | refine blk_alloc ?_ _)); exact BK129.out, GE129.out, HR0.out⟩), by repeat (first | (with_reducible first | exact HB.out | apply below_alloc | apply pw_below_drewN | apply below_drew1 | refine below_set ?_ GE129.out) | exact HB.out), by repeat (first | (with_reducible first | exact HBW.out | apply below_alloc | apply pw_below_drewN | apply below_drew1 | refine below_set ?_ GW129.out) | exact HBW.out)⟩

/-! ### spec_l01In: function 38 -/
def spec_l01In.f (a0 : Int) (a1 : Int) (a2 : Int) : Option (Bool) := if a0 ≥ a1 then (some (decide (a0 ≤ a2))) else (some false)
set_option maxHeartbeats 8000000 in
set_option maxRecDepth 100000 in
theorem spec_l01In.calls (a0 : Int) (a1 : Int) (a2 : Int) (r : Bool) (w : World) (h : spec_l01In.f a0 a1 a2 = some r) :
    Calls Try.prog 38 #[.int .i64 a0, .int .i64 a1, .int .i64 a2] w fun e w' => e = .returned (.bool r) ∧ Drawn0 w w' := by
  have H : (if a0 ≥ a1 then (some (decide (a0 ≤ a2))) else (some false)) = some r := h
  clear h
  by_cases c4 : a0 ≥ a1
  · rw [if_pos c4] at H
    have c4b0 : decide (a1 ≤ a0) = true := decide_eq_true c4
    clear c4
    obtain rfl := Option.some.inj H
    go_enter Try.func38, Try.ntmps38
    go_wp2
    go_ret
    exact ⟨by first | rfl | (simp; done) | (simp [*]; done), by repeat (first | exact Drawn0.refl _ | apply Drawn0.step)⟩
  · rw [if_neg c4] at H
    have c4b0 : decide (a1 ≤ a0) = false := decide_eq_false c4
    clear c4
    obtain rfl := Option.some.inj H
    go_enter Try.func38, Try.ntmps38
    go_wp2
    go_ret
    exact ⟨by first | rfl | (simp; done) | (simp [*]; done), by repeat (first | exact Drawn0.refl _ | apply Drawn0.step)⟩

end Go.Proofs.Ythngecooaddddaa.PFnTwoSets
