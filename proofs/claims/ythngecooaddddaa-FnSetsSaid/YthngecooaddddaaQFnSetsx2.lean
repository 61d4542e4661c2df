import Derived.Test.YthngecooaddddaaQFnSetsx0
import Derived.Test.YthngecooaddddaaQFnSetsx1
namespace Go.Proofs.Ythngecooaddddaa.PFnSets
open Go.RowKit Go.Proofs.YthngecooaddddaaW.PrintWords Go.Proofs.YthngecooaddddaaW.PrintLast Go.Proofs.YthngecooaddddaaW.PrintMore
attribute [local go_sem] max2_int min2_int max_two min_two max_three min_three max_four min_four   -- for this text's walks alone
set_option linter.unusedVariables false
set_option linter.unusedSimpArgs false

/-! ### impl_SetAdd: function 28, given by hand -/
 namespace impl_SetAdd
 section
 open Go.Proofs.Ythngecooaddddaa.Gen
 theorem impl_within_ev (a b c : Int) : impl_within.f a b c = some (decide (b ≤ a ∧ a ≤ c)) := by
   unfold impl_within.f
   by_cases h : a ≥ b
   · rw [if_pos h]; congr 1; simp; omega
   · rw [if_neg h]; congr 1; simp; omega
 
 /-- a range as a pair -/
 def pr (x : S45) : Int × Int := (x.f0, x.f1)
 theorem rd45_at (l : List S45) (i : Nat) (h : i < l.length) : rd_T45 l (i : Int) = l[i] := by
   unfold rd_T45
   rw [Int.toNat_natCast, List.getD_eq_getElem?_getD, List.getElem?_eq_getElem h]; rfl
 theorem impl_SetHas_l0 (l : List S45) (hl : l.length ≤ 1048576) (n : Int) : ∀ (d i : Nat), i + d = l.length → Ev (fun k => impl_SetHas.l0 k n l (l.length : Int) (i : Int)) (hasL ((l.drop i).map pr) n) := by
   intro d
   induction d with
   | zero =>
     intro i hi
     refine Ev.step (impl_SetHas.l0.eq_2 n l (l.length : Int) (i : Int)) (Ev.no (by omega) (Ev.const ?_))
     rw [List.drop_eq_nil_of_le (by omega)]; rfl
   | succ d ih =>
     intro i hi
     have hlt : i < l.length := by omega
     have e := rd45_at l i hlt
     refine Ev.step (impl_SetHas.l0.eq_2 n l (l.length : Int) (i : Int)) (Ev.yes (by omega) (Ev.yes (by omega) (Ev.yes (by omega) (Ev.bindc (impl_within_ev _ _ _) ?_))))
     rw [w64 (by omega) (by omega), List.drop_eq_getElem_cons hlt, ← e]
     generalize rd_T45 l (i : Int) = x
     have e2 : hasL ((x :: l.drop (i + 1)).map pr) n = (decide (x.f0 ≤ n ∧ n ≤ x.f1) || hasL ((l.drop (i + 1)).map pr) n) := rfl
     rw [e2]
     have := ih (i + 1) (by omega)
     refine Ev.ite (fun h => ?_) (fun h => ?_)
     · rw [h]; exact Ev.now _
     · rw [Bool.not_eq_true] at h
       rw [h, Bool.false_or]; exact this
 theorem impl_SetHas_ev (l : List S45) (hl : l.length ≤ 1048576) (n : Int) : Ev (fun k => impl_SetHas.f k l n) (hasL (l.map pr) n) := impl_SetHas_l0 l hl n l.length 0 (by omega)
 
 theorem pv (p : Int → Bool) (g g' : Nat) (lb lb' : Array Value) : ∀ k xs x, impl_setOf.l0 k ⟨p, g, lb⟩ xs x = impl_setOf.l0 k ⟨p, g', lb'⟩ xs x := by
   intro k
   induction k with
   | zero => intro xs x; rfl
   | succ k ih =>
     intro xs x
     simp only [impl_setOf.l0, PVcall.f, Option.bind_some, ih]
 theorem within_below (a b c : Int) (W : World) : Calls Try.prog 36 #[.int .i64 a, .int .i64 b, .int .i64 c] W fun e w' => e = .returned (.bool (decide (b ≤ a ∧ a ≤ c))) ∧ Below W.heap.size W w' := by
   refine (impl_within.calls a b c _ W (impl_within_ev a b c)).mono ?_
   rintro e w' ⟨rfl, m, rfl⟩
   exact ⟨rfl, pw_below_drewN (Below.refl _ _) m⟩
 def holds (l0 : List S45) (a1 a2 : Int) (n : Int) : Bool := hasL (l0.map pr) n || decide (a1 ≤ n ∧ n ≤ a2)
 /-- the closure -/
 theorem closure (B0 B1 B2 : Nat) (A0 : Option Addr) (c0 : Nat) (l0 : List S45) (a1 a2 : Int) (w : World)
     (hr0 : Kd.C k45 w A0 l0.length l0) (hc0 : l0.length ≤ c0) (h0 : l0.length ≤ 1048576)
     (hx0 : w.cell? ⟨B0, 0, none⟩ = some (.slice A0 l0.length c0)) (hx1 : w.cell? ⟨B1, 0, none⟩ = some (.int .i64 a1)) (hx2 : w.cell? ⟨B2, 0, none⟩ = some (.int .i64 a2)) (hB1 : B1 < w.heap.size) (hB2 : B2 < w.heap.size) (n : Int) :
     Calls Try.prog 46 #[.int .i64 n, .pointer (some ⟨B0, 0, none⟩), .pointer (some ⟨B1, 0, none⟩), .pointer (some ⟨B2, 0, none⟩)] w fun e w' => e = .returned (.bool (holds l0 a1 a2 n)) ∧ Below w.heap.size w w' := by
   obtain ⟨k0, e0⟩ := Ev.rounds (impl_SetHas_ev l0 h0 n)
   have G0 := Aside0.mk (impl_SetHas.calls k0 A0 c0 l0 n _ w hr0 hc0 e0)
   have G1 := Aside0.mk (fun W : World => within_below n a1 a2 W)
   unfold holds
   generalize hasL (l0.map pr) n = b0 at G0 ⊢
   generalize decide (a1 ≤ n ∧ n ≤ a2) = b1 at G1 ⊢
   clear e0 hr0 h0 hc0
   go_enter Try.func46, Try.ntmps46
   cases b0
   · go_wp2_with (first | (go_at_call 15; refine G0.out.mono ?_; rintro e W1 ⟨rfl, HB⟩; have hy1 : W1.cell? ⟨B1, 0, none⟩ = some (.int .i64 a1) := (HB.cell (p := ⟨B1, 0, none⟩) hB1).trans hx1; have hy2 : W1.cell? ⟨B2, 0, none⟩ = some (.int .i64 a2) := (HB.cell (p := ⟨B2, 0, none⟩) hB2).trans hx2; have HBa := Aside0.mk HB; clear HB G0) | (go_at_call 36; refine (G1.out _).mono ?_; rintro e W2 ⟨rfl, HB⟩; have HBb := Aside0.mk (below_step HBa.out HB); clear HB G1))
     go_ret
     exact ⟨by simp, HBb.out⟩
   · go_wp2_with (first | (go_at_call 15; refine G0.out.mono ?_; rintro e W1 ⟨rfl, HB⟩; have hy1 : W1.cell? ⟨B1, 0, none⟩ = some (.int .i64 a1) := (HB.cell (p := ⟨B1, 0, none⟩) hB1).trans hx1; have hy2 : W1.cell? ⟨B2, 0, none⟩ = some (.int .i64 a2) := (HB.cell (p := ⟨B2, 0, none⟩) hB2).trans hx2; have HBa := Aside0.mk HB; clear HB G0))
     go_ret
     exact ⟨by simp, HBa.out⟩
 end
 end impl_SetAdd
def impl_SetAdd.f (k : Nat) (l0 : List S45) (a1 a2 : Int) : Option (List S45 × Bool) :=
  if l0.length ≤ 1048576 then
    (impl_SetOk.f k l0).bind fun b => if b = true ∧ (1 ≤ a1 ∧ a1 ≤ 9999) ∧ (a1 ≤ a2 ∧ a2 ≤ 9999) then (impl_setOf.f k ⟨impl_SetAdd.holds l0 a1 a2, 0, #[]⟩).bind fun q => if q.2 = true then some (q.1, true) else some (l0, false) else some (l0, false)
  else none
theorem impl_SetAdd.mono : ∀ a0 a1 a2 k, LeO (impl_SetAdd.f k a0 a1 a2) (impl_SetAdd.f (k + 1) a0 a1 a2) := by
  intro a0 a1 a2 k
  unfold impl_SetAdd.f
  exact LeO.ite (LeO.bind (impl_SetOk.mono _ _) (fun _ => LeO.ite (LeO.bind (impl_setOf.mono _ _) (fun _ => LeO.refl _)) (LeO.refl _))) (LeO.refl _)
theorem impl_SetAdd.calls (k : Nat) (A0 : Option Addr) (c0 : Nat) (l0 : List (S45)) (a1 : Int) (a2 : Int) (r1 : List (S45)) (r2 : Bool) (w : World) (hr0 : Kd.C k45 w A0 l0.length l0) (hc0 : l0.length ≤ c0) (h : impl_SetAdd.f k l0 a1 a2 = some (r1, r2)) :
    Calls Try.prog 28 #[.slice A0 l0.length c0, .int .i64 a1, .int .i64 a2] w fun e w' => ∃ v0_ : Value, e = .returned (.tuple #[v0_, .bool r2]) ∧ Kd.R k45 45 w' w.heap.size (fun _ => True) v0_ r1 ∧ Below w.heap.size w w' := by
  unfold impl_SetAdd.f at h
  by_cases hl : l0.length ≤ 1048576
  case neg => rw [if_neg hl] at h; cases h
  rw [if_pos hl] at h
  obtain ⟨b, hb, h⟩ := Option.bind_eq_some_iff.mp h
  have hb2 : Below w.heap.size w (((w.alloc (.cells #[.slice A0 l0.length c0] 25)).alloc (.cells #[.int .i64 a1] 3)).alloc (.cells #[.int .i64 a2] 3)) := below_alloc (below_alloc (below_alloc (Below.refl _ _) _) _) _
  have es : ((w.alloc (.cells #[.slice A0 l0.length c0] 25)).alloc (.cells #[.int .i64 a1] 3)).heap.size = w.heap.size + 1 + 1 := by simp
  have hx0 : (((w.alloc (.cells #[.slice A0 l0.length c0] 25)).alloc (.cells #[.int .i64 a1] 3)).alloc (.cells #[.int .i64 a2] 3)).cell? ⟨w.heap.size, 0, none⟩ = some (.slice A0 l0.length c0) := ((below_alloc (Below.refl ((w.alloc (.cells #[.slice A0 l0.length c0] 25)).alloc (.cells #[.int .i64 a1] 3)).heap.size ((w.alloc (.cells #[.slice A0 l0.length c0] 25)).alloc (.cells #[.int .i64 a1] 3))) (.cells #[.int .i64 a2] 3)).cell (p := ⟨w.heap.size, 0, none⟩) (by rw [es]; show w.heap.size < w.heap.size + 1 + 1; omega)).trans (by simp)
  have hx1 : (((w.alloc (.cells #[.slice A0 l0.length c0] 25)).alloc (.cells #[.int .i64 a1] 3)).alloc (.cells #[.int .i64 a2] 3)).cell? ⟨w.heap.size + 1, 0, none⟩ = some (.int .i64 a1) := ((below_alloc (Below.refl ((w.alloc (.cells #[.slice A0 l0.length c0] 25)).alloc (.cells #[.int .i64 a1] 3)).heap.size ((w.alloc (.cells #[.slice A0 l0.length c0] 25)).alloc (.cells #[.int .i64 a1] 3))) (.cells #[.int .i64 a2] 3)).cell (p := ⟨w.heap.size + 1, 0, none⟩) (by rw [es]; show w.heap.size + 1 < w.heap.size + 1 + 1; omega)).trans (by simp)
  have g_ : ∀ (W : World) (v : Value) (t : Nat), (W.alloc (.cells #[v] t)).cell? ⟨W.heap.size, 0, none⟩ = some v := by intro W v t; simp
  have hx2 : (((w.alloc (.cells #[.slice A0 l0.length c0] 25)).alloc (.cells #[.int .i64 a1] 3)).alloc (.cells #[.int .i64 a2] 3)).cell? ⟨w.heap.size + 1 + 1, 0, none⟩ = some (.int .i64 a2) := by
    have h_ := g_ ((w.alloc (.cells #[.slice A0 l0.length c0] 25)).alloc (.cells #[.int .i64 a1] 3)) (.int .i64 a2) 3
    rw [es] at h_; exact h_
  have hs0 : w.heap.size < (((w.alloc (.cells #[.slice A0 l0.length c0] 25)).alloc (.cells #[.int .i64 a1] 3)).alloc (.cells #[.int .i64 a2] 3)).heap.size := by simp <;> omega
  have hs1 : w.heap.size + 1 < (((w.alloc (.cells #[.slice A0 l0.length c0] 25)).alloc (.cells #[.int .i64 a1] 3)).alloc (.cells #[.int .i64 a2] 3)).heap.size := by simp <;> omega
  have hs2 : w.heap.size + 1 + 1 < (((w.alloc (.cells #[.slice A0 l0.length c0] 25)).alloc (.cells #[.int .i64 a1] 3)).alloc (.cells #[.int .i64 a2] 3)).heap.size := by simp <;> omega
  have HB2 := Aside0.mk hb2
  have HBq := Aside0.mk (Below.refl (((w.alloc (.cells #[.slice A0 l0.length c0] 25)).alloc (.cells #[.int .i64 a1] 3)).alloc (.cells #[.int .i64 a2] 3)).heap.size (((w.alloc (.cells #[.slice A0 l0.length c0] 25)).alloc (.cells #[.int .i64 a1] 3)).alloc (.cells #[.int .i64 a2] 3)))
  have HS0 := Aside0.mk hs0
  have HS1 := Aside0.mk hs1
  have HS2 := Aside0.mk hs2
  have HX0 := Aside0.mk hx0
  have HX1 := Aside0.mk hx1
  have HX2 := Aside0.mk hx2
  have K0 := Aside0.mk (fun (W : World) (hb_ : Below (((w.alloc (.cells #[.slice A0 l0.length c0] 25)).alloc (.cells #[.int .i64 a1] 3)).alloc (.cells #[.int .i64 a2] 3)).heap.size (((w.alloc (.cells #[.slice A0 l0.length c0] 25)).alloc (.cells #[.int .i64 a1] 3)).alloc (.cells #[.int .i64 a2] 3)) W) => impl_SetOk.calls k A0 c0 l0 b W (Kd.C_below hr0 (below_step hb2 hb_)) hc0 hb)
  have KU := Aside0.mk (fun (W : World) => show Calls Try.prog 39 #[.int .i64 a1] W fun e w' => e = .returned (.bool (decide (1 ≤ a1 ∧ a1 ≤ 9999))) ∧ Below W.heap.size W w' from
    (impl_isUid.calls a1 _ W (show impl_isUid.f a1 = some (decide (1 ≤ a1 ∧ a1 ≤ 9999)) by unfold impl_isUid.f; rw [impl_SetAdd.impl_within_ev]; rfl)).mono (by rintro e w' ⟨rfl, m, rfl⟩; exact ⟨rfl, pw_below_drewN (Below.refl _ _) m⟩))
  have KW := Aside0.mk (fun (W : World) => impl_SetAdd.within_below a2 a1 9999 W)
  have KC := Aside0.mk (fun (W : World) (hb_ : Below (((w.alloc (.cells #[.slice A0 l0.length c0] 25)).alloc (.cells #[.int .i64 a1] 3)).alloc (.cells #[.int .i64 a2] 3)).heap.size (((w.alloc (.cells #[.slice A0 l0.length c0] 25)).alloc (.cells #[.int .i64 a1] 3)).alloc (.cells #[.int .i64 a2] 3)) W) => impl_copyRanges.calls A0 c0 l0 l0 W (Kd.C_below hr0 (below_step hb2 hb_)) hc0 (by unfold impl_copyRanges.f; rw [Option.bind_some, if_pos (by simp; omega)]; rfl))
  have GG := Aside0.mk (fun (q1 : List S45) (q2 : Bool) (hq : impl_setOf.f k ⟨impl_SetAdd.holds l0 a1 a2, 0, #[]⟩ = some (q1, q2)) (W : World) (hbW : Below (((w.alloc (.cells #[.slice A0 l0.length c0] 25)).alloc (.cells #[.int .i64 a1] 3)).alloc (.cells #[.int .i64 a2] 3)).heap.size (((w.alloc (.cells #[.slice A0 l0.length c0] 25)).alloc (.cells #[.int .i64 a1] 3)).alloc (.cells #[.int .i64 a2] 3)) W) => impl_setOf.calls k ⟨impl_SetAdd.holds l0 a1 a2, 46, #[.pointer (some ⟨w.heap.size, 0, none⟩), .pointer (some ⟨w.heap.size + 1, 0, none⟩), .pointer (some ⟨w.heap.size + 1 + 1, 0, none⟩)]⟩ q1 q2 W
    ⟨enters_of Try.func46 (by kernel_rfl) rfl, fun W2 x hbx => by
      have hbb := below_step hbW hbx
      show Calls Try.prog 46 #[.int .i64 x, .pointer (some ⟨w.heap.size, 0, none⟩), .pointer (some ⟨w.heap.size + 1, 0, none⟩), .pointer (some ⟨w.heap.size + 1 + 1, 0, none⟩)] W2 _
      exact impl_SetAdd.closure _ _ _ A0 c0 l0 a1 a2 W2 (Kd.C_below hr0 (below_step hb2 hbb)) hc0 hl ((hbb.cell (p := ⟨w.heap.size, 0, none⟩) hs0).trans hx0) ((hbb.cell (p := ⟨w.heap.size + 1, 0, none⟩) hs1).trans hx1) ((hbb.cell (p := ⟨w.heap.size + 1 + 1, 0, none⟩) hs2).trans hx2) (Nat.lt_of_lt_of_le hs1 (below_size hbb)) (Nat.lt_of_lt_of_le hs2 (below_size hbb)) x⟩
    (by unfold impl_setOf.f; rw [impl_SetAdd.pv _ 46 0 _ #[]]; exact hq))
  clear g_ es hb2 hx0 hx1 hx2 hs0 hs1 hs2 hb hr0 hc0 hl
  cases b
  · rw [if_neg (fun h => by simp at h)] at h
    obtain ⟨rfl, rfl⟩ := Prod.mk.inj (Option.some.inj h)
    clear h GG KU KW
    go_enter Try.func28, Try.ntmps28
    go_wp2_with (first | (go_at_call 18; refine (K0.out _ HBq.out).mono ?_; rintro e W1 ⟨rfl, HB⟩; have n0_ := Aside0.mk (below_step HBq.out HB); clear HBq HB; have HBq := n0_; clear n0_; have y0_1 : W1.cell? ⟨w.heap.size, 0, none⟩ = some (.slice A0 l0.length c0) := (HBq.out.cell (p := ⟨w.heap.size, 0, none⟩) HS0.out).trans HX0.out; have y1_1 : W1.cell? ⟨w.heap.size + 1, 0, none⟩ = some (.int .i64 a1) := (HBq.out.cell (p := ⟨w.heap.size + 1, 0, none⟩) HS1.out).trans HX1.out; have y2_1 : W1.cell? ⟨w.heap.size + 1 + 1, 0, none⟩ = some (.int .i64 a2) := (HBq.out.cell (p := ⟨w.heap.size + 1 + 1, 0, none⟩) HS2.out).trans HX2.out; clear K0) | (go_at_call 45; refine (KC.out _ HBq.out).mono ?_; rintro e W5 ⟨v1_, rfl, HR, HB⟩; have HRc := Aside0.mk (Kd.R_lower HR (below_size (below_step HB2.out HBq.out))); clear HR; have n0_ := Aside0.mk (below_step HBq.out HB); clear HBq HB; have HBq := n0_; clear n0_; have y0_5 : W5.cell? ⟨w.heap.size, 0, none⟩ = some (.slice A0 l0.length c0) := (HBq.out.cell (p := ⟨w.heap.size, 0, none⟩) HS0.out).trans HX0.out; have y1_5 : W5.cell? ⟨w.heap.size + 1, 0, none⟩ = some (.int .i64 a1) := (HBq.out.cell (p := ⟨w.heap.size + 1, 0, none⟩) HS1.out).trans HX1.out; have y2_5 : W5.cell? ⟨w.heap.size + 1 + 1, 0, none⟩ = some (.int .i64 a2) := (HBq.out.cell (p := ⟨w.heap.size + 1 + 1, 0, none⟩) HS2.out).trans HX2.out; clear KC))
    go_ret2
    exact ⟨_, rfl, HRc.out, below_step HB2.out HBq.out⟩
  by_cases hu : 1 ≤ a1 ∧ a1 ≤ 9999
  case neg =>
    rw [if_neg (fun h => hu h.2.1)] at h
    obtain ⟨rfl, rfl⟩ := Prod.mk.inj (Option.some.inj h)
    clear h GG KW
    rw [decide_eq_false hu] at KU
    clear hu
    go_enter Try.func28, Try.ntmps28
    go_wp2_with (first | (go_at_call 18; refine (K0.out _ HBq.out).mono ?_; rintro e W1 ⟨rfl, HB⟩; have n0_ := Aside0.mk (below_step HBq.out HB); clear HBq HB; have HBq := n0_; clear n0_; have y0_1 : W1.cell? ⟨w.heap.size, 0, none⟩ = some (.slice A0 l0.length c0) := (HBq.out.cell (p := ⟨w.heap.size, 0, none⟩) HS0.out).trans HX0.out; have y1_1 : W1.cell? ⟨w.heap.size + 1, 0, none⟩ = some (.int .i64 a1) := (HBq.out.cell (p := ⟨w.heap.size + 1, 0, none⟩) HS1.out).trans HX1.out; have y2_1 : W1.cell? ⟨w.heap.size + 1 + 1, 0, none⟩ = some (.int .i64 a2) := (HBq.out.cell (p := ⟨w.heap.size + 1 + 1, 0, none⟩) HS2.out).trans HX2.out; clear K0) | (go_at_call 39; refine (KU.out _).mono ?_; rintro e W2 ⟨rfl, HB⟩; have n0_ := Aside0.mk (below_step HBq.out HB); clear HBq HB; have HBq := n0_; clear n0_; have y0_2 : W2.cell? ⟨w.heap.size, 0, none⟩ = some (.slice A0 l0.length c0) := (HBq.out.cell (p := ⟨w.heap.size, 0, none⟩) HS0.out).trans HX0.out; have y1_2 : W2.cell? ⟨w.heap.size + 1, 0, none⟩ = some (.int .i64 a1) := (HBq.out.cell (p := ⟨w.heap.size + 1, 0, none⟩) HS1.out).trans HX1.out; have y2_2 : W2.cell? ⟨w.heap.size + 1 + 1, 0, none⟩ = some (.int .i64 a2) := (HBq.out.cell (p := ⟨w.heap.size + 1 + 1, 0, none⟩) HS2.out).trans HX2.out; clear KU) | (go_at_call 45; refine (KC.out _ HBq.out).mono ?_; rintro e W5 ⟨v1_, rfl, HR, HB⟩; have HRc := Aside0.mk (Kd.R_lower HR (below_size (below_step HB2.out HBq.out))); clear HR; have n0_ := Aside0.mk (below_step HBq.out HB); clear HBq HB; have HBq := n0_; clear n0_; have y0_5 : W5.cell? ⟨w.heap.size, 0, none⟩ = some (.slice A0 l0.length c0) := (HBq.out.cell (p := ⟨w.heap.size, 0, none⟩) HS0.out).trans HX0.out; have y1_5 : W5.cell? ⟨w.heap.size + 1, 0, none⟩ = some (.int .i64 a1) := (HBq.out.cell (p := ⟨w.heap.size + 1, 0, none⟩) HS1.out).trans HX1.out; have y2_5 : W5.cell? ⟨w.heap.size + 1 + 1, 0, none⟩ = some (.int .i64 a2) := (HBq.out.cell (p := ⟨w.heap.size + 1 + 1, 0, none⟩) HS2.out).trans HX2.out; clear KC))
    go_ret2
    exact ⟨_, rfl, HRc.out, below_step HB2.out HBq.out⟩
  rw [decide_eq_true hu] at KU
  by_cases hw : a1 ≤ a2 ∧ a2 ≤ 9999
  case neg =>
    rw [if_neg (fun h => hw h.2.2)] at h
    obtain ⟨rfl, rfl⟩ := Prod.mk.inj (Option.some.inj h)
    clear h GG
    rw [decide_eq_false hw] at KW
    clear hw hu
    go_enter Try.func28, Try.ntmps28
    go_wp2_with (first | (go_at_call 18; refine (K0.out _ HBq.out).mono ?_; rintro e W1 ⟨rfl, HB⟩; have n0_ := Aside0.mk (below_step HBq.out HB); clear HBq HB; have HBq := n0_; clear n0_; have y0_1 : W1.cell? ⟨w.heap.size, 0, none⟩ = some (.slice A0 l0.length c0) := (HBq.out.cell (p := ⟨w.heap.size, 0, none⟩) HS0.out).trans HX0.out; have y1_1 : W1.cell? ⟨w.heap.size + 1, 0, none⟩ = some (.int .i64 a1) := (HBq.out.cell (p := ⟨w.heap.size + 1, 0, none⟩) HS1.out).trans HX1.out; have y2_1 : W1.cell? ⟨w.heap.size + 1 + 1, 0, none⟩ = some (.int .i64 a2) := (HBq.out.cell (p := ⟨w.heap.size + 1 + 1, 0, none⟩) HS2.out).trans HX2.out; clear K0) | (go_at_call 39; refine (KU.out _).mono ?_; rintro e W2 ⟨rfl, HB⟩; have n0_ := Aside0.mk (below_step HBq.out HB); clear HBq HB; have HBq := n0_; clear n0_; have y0_2 : W2.cell? ⟨w.heap.size, 0, none⟩ = some (.slice A0 l0.length c0) := (HBq.out.cell (p := ⟨w.heap.size, 0, none⟩) HS0.out).trans HX0.out; have y1_2 : W2.cell? ⟨w.heap.size + 1, 0, none⟩ = some (.int .i64 a1) := (HBq.out.cell (p := ⟨w.heap.size + 1, 0, none⟩) HS1.out).trans HX1.out; have y2_2 : W2.cell? ⟨w.heap.size + 1 + 1, 0, none⟩ = some (.int .i64 a2) := (HBq.out.cell (p := ⟨w.heap.size + 1 + 1, 0, none⟩) HS2.out).trans HX2.out; clear KU) | (go_at_call 36; refine (KW.out _).mono ?_; rintro e W3 ⟨rfl, HB⟩; have n0_ := Aside0.mk (below_step HBq.out HB); clear HBq HB; have HBq := n0_; clear n0_; have y0_3 : W3.cell? ⟨w.heap.size, 0, none⟩ = some (.slice A0 l0.length c0) := (HBq.out.cell (p := ⟨w.heap.size, 0, none⟩) HS0.out).trans HX0.out; have y1_3 : W3.cell? ⟨w.heap.size + 1, 0, none⟩ = some (.int .i64 a1) := (HBq.out.cell (p := ⟨w.heap.size + 1, 0, none⟩) HS1.out).trans HX1.out; have y2_3 : W3.cell? ⟨w.heap.size + 1 + 1, 0, none⟩ = some (.int .i64 a2) := (HBq.out.cell (p := ⟨w.heap.size + 1 + 1, 0, none⟩) HS2.out).trans HX2.out; clear KW) | (go_at_call 45; refine (KC.out _ HBq.out).mono ?_; rintro e W5 ⟨v1_, rfl, HR, HB⟩; have HRc := Aside0.mk (Kd.R_lower HR (below_size (below_step HB2.out HBq.out))); clear HR; have n0_ := Aside0.mk (below_step HBq.out HB); clear HBq HB; have HBq := n0_; clear n0_; have y0_5 : W5.cell? ⟨w.heap.size, 0, none⟩ = some (.slice A0 l0.length c0) := (HBq.out.cell (p := ⟨w.heap.size, 0, none⟩) HS0.out).trans HX0.out; have y1_5 : W5.cell? ⟨w.heap.size + 1, 0, none⟩ = some (.int .i64 a1) := (HBq.out.cell (p := ⟨w.heap.size + 1, 0, none⟩) HS1.out).trans HX1.out; have y2_5 : W5.cell? ⟨w.heap.size + 1 + 1, 0, none⟩ = some (.int .i64 a2) := (HBq.out.cell (p := ⟨w.heap.size + 1 + 1, 0, none⟩) HS2.out).trans HX2.out; clear KC))
    go_ret2
    exact ⟨_, rfl, HRc.out, below_step HB2.out HBq.out⟩
  rw [decide_eq_true hw] at KW
  rw [if_pos ⟨rfl, hu, hw⟩] at h
  clear hu hw
  obtain ⟨⟨q1, q2⟩, hq, h⟩ := Option.bind_eq_some_iff.mp h
  dsimp only at h
  have GS := Aside0.mk (GG.out q1 q2 hq)
  clear GG hq
  cases q2
  · rw [if_neg (by decide)] at h
    obtain ⟨rfl, rfl⟩ := Prod.mk.inj (Option.some.inj h)
    clear h
    go_enter Try.func28, Try.ntmps28
    go_wp2_with (first | (go_at_call 18; refine (K0.out _ HBq.out).mono ?_; rintro e W1 ⟨rfl, HB⟩; have n0_ := Aside0.mk (below_step HBq.out HB); clear HBq HB; have HBq := n0_; clear n0_; have y0_1 : W1.cell? ⟨w.heap.size, 0, none⟩ = some (.slice A0 l0.length c0) := (HBq.out.cell (p := ⟨w.heap.size, 0, none⟩) HS0.out).trans HX0.out; have y1_1 : W1.cell? ⟨w.heap.size + 1, 0, none⟩ = some (.int .i64 a1) := (HBq.out.cell (p := ⟨w.heap.size + 1, 0, none⟩) HS1.out).trans HX1.out; have y2_1 : W1.cell? ⟨w.heap.size + 1 + 1, 0, none⟩ = some (.int .i64 a2) := (HBq.out.cell (p := ⟨w.heap.size + 1 + 1, 0, none⟩) HS2.out).trans HX2.out; clear K0) | (go_at_call 39; refine (KU.out _).mono ?_; rintro e W2 ⟨rfl, HB⟩; have n0_ := Aside0.mk (below_step HBq.out HB); clear HBq HB; have HBq := n0_; clear n0_; have y0_2 : W2.cell? ⟨w.heap.size, 0, none⟩ = some (.slice A0 l0.length c0) := (HBq.out.cell (p := ⟨w.heap.size, 0, none⟩) HS0.out).trans HX0.out; have y1_2 : W2.cell? ⟨w.heap.size + 1, 0, none⟩ = some (.int .i64 a1) := (HBq.out.cell (p := ⟨w.heap.size + 1, 0, none⟩) HS1.out).trans HX1.out; have y2_2 : W2.cell? ⟨w.heap.size + 1 + 1, 0, none⟩ = some (.int .i64 a2) := (HBq.out.cell (p := ⟨w.heap.size + 1 + 1, 0, none⟩) HS2.out).trans HX2.out; clear KU) | (go_at_call 36; refine (KW.out _).mono ?_; rintro e W3 ⟨rfl, HB⟩; have n0_ := Aside0.mk (below_step HBq.out HB); clear HBq HB; have HBq := n0_; clear n0_; have y0_3 : W3.cell? ⟨w.heap.size, 0, none⟩ = some (.slice A0 l0.length c0) := (HBq.out.cell (p := ⟨w.heap.size, 0, none⟩) HS0.out).trans HX0.out; have y1_3 : W3.cell? ⟨w.heap.size + 1, 0, none⟩ = some (.int .i64 a1) := (HBq.out.cell (p := ⟨w.heap.size + 1, 0, none⟩) HS1.out).trans HX1.out; have y2_3 : W3.cell? ⟨w.heap.size + 1 + 1, 0, none⟩ = some (.int .i64 a2) := (HBq.out.cell (p := ⟨w.heap.size + 1 + 1, 0, none⟩) HS2.out).trans HX2.out; clear KW) | (go_at_call 41; refine (GS.out _ HBq.out).mono ?_; rintro e W4 ⟨v0_, rfl, HR, HB⟩; have HRs := Aside0.mk (Kd.R_lower HR (below_size (below_step HB2.out HBq.out))); clear HR; have n0_ := Aside0.mk (below_step HBq.out HB); clear HBq HB; have HBq := n0_; clear n0_; have y0_4 : W4.cell? ⟨w.heap.size, 0, none⟩ = some (.slice A0 l0.length c0) := (HBq.out.cell (p := ⟨w.heap.size, 0, none⟩) HS0.out).trans HX0.out; have y1_4 : W4.cell? ⟨w.heap.size + 1, 0, none⟩ = some (.int .i64 a1) := (HBq.out.cell (p := ⟨w.heap.size + 1, 0, none⟩) HS1.out).trans HX1.out; have y2_4 : W4.cell? ⟨w.heap.size + 1 + 1, 0, none⟩ = some (.int .i64 a2) := (HBq.out.cell (p := ⟨w.heap.size + 1 + 1, 0, none⟩) HS2.out).trans HX2.out; clear GS) | (go_at_call 45; refine (KC.out _ HBq.out).mono ?_; rintro e W5 ⟨v1_, rfl, HR, HB⟩; have HRc := Aside0.mk (Kd.R_lower HR (below_size (below_step HB2.out HBq.out))); clear HR; have n0_ := Aside0.mk (below_step HBq.out HB); clear HBq HB; have HBq := n0_; clear n0_; have y0_5 : W5.cell? ⟨w.heap.size, 0, none⟩ = some (.slice A0 l0.length c0) := (HBq.out.cell (p := ⟨w.heap.size, 0, none⟩) HS0.out).trans HX0.out; have y1_5 : W5.cell? ⟨w.heap.size + 1, 0, none⟩ = some (.int .i64 a1) := (HBq.out.cell (p := ⟨w.heap.size + 1, 0, none⟩) HS1.out).trans HX1.out; have y2_5 : W5.cell? ⟨w.heap.size + 1 + 1, 0, none⟩ = some (.int .i64 a2) := (HBq.out.cell (p := ⟨w.heap.size + 1 + 1, 0, none⟩) HS2.out).trans HX2.out; clear KC))
    go_ret2
    exact ⟨_, rfl, HRc.out, below_step HB2.out HBq.out⟩
  · rw [if_pos rfl] at h
    obtain ⟨rfl, rfl⟩ := Prod.mk.inj (Option.some.inj h)
    clear h KC
    go_enter Try.func28, Try.ntmps28
    go_wp2_with (first | (go_at_call 18; refine (K0.out _ HBq.out).mono ?_; rintro e W1 ⟨rfl, HB⟩; have n0_ := Aside0.mk (below_step HBq.out HB); clear HBq HB; have HBq := n0_; clear n0_; have y0_1 : W1.cell? ⟨w.heap.size, 0, none⟩ = some (.slice A0 l0.length c0) := (HBq.out.cell (p := ⟨w.heap.size, 0, none⟩) HS0.out).trans HX0.out; have y1_1 : W1.cell? ⟨w.heap.size + 1, 0, none⟩ = some (.int .i64 a1) := (HBq.out.cell (p := ⟨w.heap.size + 1, 0, none⟩) HS1.out).trans HX1.out; have y2_1 : W1.cell? ⟨w.heap.size + 1 + 1, 0, none⟩ = some (.int .i64 a2) := (HBq.out.cell (p := ⟨w.heap.size + 1 + 1, 0, none⟩) HS2.out).trans HX2.out; clear K0) | (go_at_call 39; refine (KU.out _).mono ?_; rintro e W2 ⟨rfl, HB⟩; have n0_ := Aside0.mk (below_step HBq.out HB); clear HBq HB; have HBq := n0_; clear n0_; have y0_2 : W2.cell? ⟨w.heap.size, 0, none⟩ = some (.slice A0 l0.length c0) := (HBq.out.cell (p := ⟨w.heap.size, 0, none⟩) HS0.out).trans HX0.out; have y1_2 : W2.cell? ⟨w.heap.size + 1, 0, none⟩ = some (.int .i64 a1) := (HBq.out.cell (p := ⟨w.heap.size + 1, 0, none⟩) HS1.out).trans HX1.out; have y2_2 : W2.cell? ⟨w.heap.size + 1 + 1, 0, none⟩ = some (.int .i64 a2) := (HBq.out.cell (p := ⟨w.heap.size + 1 + 1, 0, none⟩) HS2.out).trans HX2.out; clear KU) | (go_at_call 36; refine (KW.out _).mono ?_; rintro e W3 ⟨rfl, HB⟩; have n0_ := Aside0.mk (below_step HBq.out HB); clear HBq HB; have HBq := n0_; clear n0_; have y0_3 : W3.cell? ⟨w.heap.size, 0, none⟩ = some (.slice A0 l0.length c0) := (HBq.out.cell (p := ⟨w.heap.size, 0, none⟩) HS0.out).trans HX0.out; have y1_3 : W3.cell? ⟨w.heap.size + 1, 0, none⟩ = some (.int .i64 a1) := (HBq.out.cell (p := ⟨w.heap.size + 1, 0, none⟩) HS1.out).trans HX1.out; have y2_3 : W3.cell? ⟨w.heap.size + 1 + 1, 0, none⟩ = some (.int .i64 a2) := (HBq.out.cell (p := ⟨w.heap.size + 1 + 1, 0, none⟩) HS2.out).trans HX2.out; clear KW) | (go_at_call 41; refine (GS.out _ HBq.out).mono ?_; rintro e W4 ⟨v0_, rfl, HR, HB⟩; have HRs := Aside0.mk (Kd.R_lower HR (below_size (below_step HB2.out HBq.out))); clear HR; have n0_ := Aside0.mk (below_step HBq.out HB); clear HBq HB; have HBq := n0_; clear n0_; have y0_4 : W4.cell? ⟨w.heap.size, 0, none⟩ = some (.slice A0 l0.length c0) := (HBq.out.cell (p := ⟨w.heap.size, 0, none⟩) HS0.out).trans HX0.out; have y1_4 : W4.cell? ⟨w.heap.size + 1, 0, none⟩ = some (.int .i64 a1) := (HBq.out.cell (p := ⟨w.heap.size + 1, 0, none⟩) HS1.out).trans HX1.out; have y2_4 : W4.cell? ⟨w.heap.size + 1 + 1, 0, none⟩ = some (.int .i64 a2) := (HBq.out.cell (p := ⟨w.heap.size + 1 + 1, 0, none⟩) HS2.out).trans HX2.out; clear GS))
    go_ret2
    exact ⟨_, rfl, HRs.out, below_step HB2.out HBq.out⟩


-- NOT PRINTED: function 47 (impl_SetDrop_1)

/-! ### impl_SetDrop: function 30, given by hand -/
 namespace impl_SetDrop
 section
 open Go.Proofs.Ythngecooaddddaa.Gen
 theorem impl_within_ev (a b c : Int) : impl_within.f a b c = some (decide (b ≤ a ∧ a ≤ c)) := by
   unfold impl_within.f
   by_cases h : a ≥ b
   · rw [if_pos h]; congr 1; simp; omega
   · rw [if_neg h]; congr 1; simp; omega
 
 /-- a range as a pair -/
 def pr (x : S45) : Int × Int := (x.f0, x.f1)
 theorem rd45_at (l : List S45) (i : Nat) (h : i < l.length) : rd_T45 l (i : Int) = l[i] := by
   unfold rd_T45
   rw [Int.toNat_natCast, List.getD_eq_getElem?_getD, List.getElem?_eq_getElem h]; rfl
 theorem impl_SetHas_l0 (l : List S45) (hl : l.length ≤ 1048576) (n : Int) : ∀ (d i : Nat), i + d = l.length → Ev (fun k => impl_SetHas.l0 k n l (l.length : Int) (i : Int)) (hasL ((l.drop i).map pr) n) := by
   intro d
   induction d with
   | zero =>
     intro i hi
     refine Ev.step (impl_SetHas.l0.eq_2 n l (l.length : Int) (i : Int)) (Ev.no (by omega) (Ev.const ?_))
     rw [List.drop_eq_nil_of_le (by omega)]; rfl
   | succ d ih =>
     intro i hi
     have hlt : i < l.length := by omega
     have e := rd45_at l i hlt
     refine Ev.step (impl_SetHas.l0.eq_2 n l (l.length : Int) (i : Int)) (Ev.yes (by omega) (Ev.yes (by omega) (Ev.yes (by omega) (Ev.bindc (impl_within_ev _ _ _) ?_))))
     rw [w64 (by omega) (by omega), List.drop_eq_getElem_cons hlt, ← e]
     generalize rd_T45 l (i : Int) = x
     have e2 : hasL ((x :: l.drop (i + 1)).map pr) n = (decide (x.f0 ≤ n ∧ n ≤ x.f1) || hasL ((l.drop (i + 1)).map pr) n) := rfl
     rw [e2]
     have := ih (i + 1) (by omega)
     refine Ev.ite (fun h => ?_) (fun h => ?_)
     · rw [h]; exact Ev.now _
     · rw [Bool.not_eq_true] at h
       rw [h, Bool.false_or]; exact this
 theorem impl_SetHas_ev (l : List S45) (hl : l.length ≤ 1048576) (n : Int) : Ev (fun k => impl_SetHas.f k l n) (hasL (l.map pr) n) := impl_SetHas_l0 l hl n l.length 0 (by omega)
 
 theorem pv (p : Int → Bool) (g g' : Nat) (lb lb' : Array Value) : ∀ k xs x, impl_setOf.l0 k ⟨p, g, lb⟩ xs x = impl_setOf.l0 k ⟨p, g', lb'⟩ xs x := by
   intro k
   induction k with
   | zero => intro xs x; rfl
   | succ k ih =>
     intro xs x
     simp only [impl_setOf.l0, PVcall.f, Option.bind_some, ih]
 theorem within_below (a b c : Int) (W : World) : Calls Try.prog 36 #[.int .i64 a, .int .i64 b, .int .i64 c] W fun e w' => e = .returned (.bool (decide (b ≤ a ∧ a ≤ c))) ∧ Below W.heap.size W w' := by
   refine (impl_within.calls a b c _ W (impl_within_ev a b c)).mono ?_
   rintro e w' ⟨rfl, m, rfl⟩
   exact ⟨rfl, pw_below_drewN (Below.refl _ _) m⟩
 def holds (l0 : List S45) (a1 a2 : Int) (n : Int) : Bool := hasL (l0.map pr) n && !decide (a1 ≤ n ∧ n ≤ a2)
 /-- the closure -/
 theorem closure (B0 B1 B2 : Nat) (A0 : Option Addr) (c0 : Nat) (l0 : List S45) (a1 a2 : Int) (w : World)
     (hr0 : Kd.C k45 w A0 l0.length l0) (hc0 : l0.length ≤ c0) (h0 : l0.length ≤ 1048576)
     (hx0 : w.cell? ⟨B0, 0, none⟩ = some (.slice A0 l0.length c0)) (hx1 : w.cell? ⟨B1, 0, none⟩ = some (.int .i64 a1)) (hx2 : w.cell? ⟨B2, 0, none⟩ = some (.int .i64 a2)) (hB1 : B1 < w.heap.size) (hB2 : B2 < w.heap.size) (n : Int) :
     Calls Try.prog 47 #[.int .i64 n, .pointer (some ⟨B0, 0, none⟩), .pointer (some ⟨B1, 0, none⟩), .pointer (some ⟨B2, 0, none⟩)] w fun e w' => e = .returned (.bool (holds l0 a1 a2 n)) ∧ Below w.heap.size w w' := by
   obtain ⟨k0, e0⟩ := Ev.rounds (impl_SetHas_ev l0 h0 n)
   have G0 := Aside0.mk (impl_SetHas.calls k0 A0 c0 l0 n _ w hr0 hc0 e0)
   have G1 := Aside0.mk (fun W : World => within_below n a1 a2 W)
   unfold holds
   generalize hasL (l0.map pr) n = b0 at G0 ⊢
   generalize decide (a1 ≤ n ∧ n ≤ a2) = b1 at G1 ⊢
   clear e0 hr0 h0 hc0
   go_enter Try.func47, Try.ntmps47
   cases b0
   · go_wp2_with (first | (go_at_call 15; refine G0.out.mono ?_; rintro e W1 ⟨rfl, HB⟩; have hy1 : W1.cell? ⟨B1, 0, none⟩ = some (.int .i64 a1) := (HB.cell (p := ⟨B1, 0, none⟩) hB1).trans hx1; have hy2 : W1.cell? ⟨B2, 0, none⟩ = some (.int .i64 a2) := (HB.cell (p := ⟨B2, 0, none⟩) hB2).trans hx2; have HBa := Aside0.mk HB; clear HB G0))
     go_ret
     exact ⟨by simp, HBa.out⟩
   · go_wp2_with (first | (go_at_call 15; refine G0.out.mono ?_; rintro e W1 ⟨rfl, HB⟩; have hy1 : W1.cell? ⟨B1, 0, none⟩ = some (.int .i64 a1) := (HB.cell (p := ⟨B1, 0, none⟩) hB1).trans hx1; have hy2 : W1.cell? ⟨B2, 0, none⟩ = some (.int .i64 a2) := (HB.cell (p := ⟨B2, 0, none⟩) hB2).trans hx2; have HBa := Aside0.mk HB; clear HB G0) | (go_at_call 36; refine (G1.out _).mono ?_; rintro e W2 ⟨rfl, HB⟩; have HBb := Aside0.mk (below_step HBa.out HB); clear HB G1))
     go_ret
     exact ⟨by simp, HBb.out⟩
 end
 end impl_SetDrop
def impl_SetDrop.f (k : Nat) (l0 : List S45) (a1 a2 : Int) : Option (List S45 × Bool) :=
  if l0.length ≤ 1048576 then
    (impl_SetOk.f k l0).bind fun b => if b = true ∧ (1 ≤ a1 ∧ a1 ≤ 9999) ∧ (a1 ≤ a2 ∧ a2 ≤ 9999) then (impl_setOf.f k ⟨impl_SetDrop.holds l0 a1 a2, 0, #[]⟩).bind fun q => if q.2 = true then some (q.1, true) else some (l0, false) else some (l0, false)
  else none
theorem impl_SetDrop.mono : ∀ a0 a1 a2 k, LeO (impl_SetDrop.f k a0 a1 a2) (impl_SetDrop.f (k + 1) a0 a1 a2) := by
  intro a0 a1 a2 k
  unfold impl_SetDrop.f
  exact LeO.ite (LeO.bind (impl_SetOk.mono _ _) (fun _ => LeO.ite (LeO.bind (impl_setOf.mono _ _) (fun _ => LeO.refl _)) (LeO.refl _))) (LeO.refl _)
theorem impl_SetDrop.calls (k : Nat) (A0 : Option Addr) (c0 : Nat) (l0 : List (S45)) (a1 : Int) (a2 : Int) (r1 : List (S45)) (r2 : Bool) (w : World) (hr0 : Kd.C k45 w A0 l0.length l0) (hc0 : l0.length ≤ c0) (h : impl_SetDrop.f k l0 a1 a2 = some (r1, r2)) :
    Calls Try.prog 30 #[.slice A0 l0.length c0, .int .i64 a1, .int .i64 a2] w fun e w' => ∃ v0_ : Value, e = .returned (.tuple #[v0_, .bool r2]) ∧ Kd.R k45 45 w' w.heap.size (fun _ => True) v0_ r1 ∧ Below w.heap.size w w' := by
  unfold impl_SetDrop.f at h
  by_cases hl : l0.length ≤ 1048576
  case neg => rw [if_neg hl] at h; cases h
  rw [if_pos hl] at h
  obtain ⟨b, hb, h⟩ := Option.bind_eq_some_iff.mp h
  have hb2 : Below w.heap.size w (((w.alloc (.cells #[.slice A0 l0.length c0] 25)).alloc (.cells #[.int .i64 a1] 3)).alloc (.cells #[.int .i64 a2] 3)) := below_alloc (below_alloc (below_alloc (Below.refl _ _) _) _) _
  have es : ((w.alloc (.cells #[.slice A0 l0.length c0] 25)).alloc (.cells #[.int .i64 a1] 3)).heap.size = w.heap.size + 1 + 1 := by simp
  have hx0 : (((w.alloc (.cells #[.slice A0 l0.length c0] 25)).alloc (.cells #[.int .i64 a1] 3)).alloc (.cells #[.int .i64 a2] 3)).cell? ⟨w.heap.size, 0, none⟩ = some (.slice A0 l0.length c0) := ((below_alloc (Below.refl ((w.alloc (.cells #[.slice A0 l0.length c0] 25)).alloc (.cells #[.int .i64 a1] 3)).heap.size ((w.alloc (.cells #[.slice A0 l0.length c0] 25)).alloc (.cells #[.int .i64 a1] 3))) (.cells #[.int .i64 a2] 3)).cell (p := ⟨w.heap.size, 0, none⟩) (by rw [es]; show w.heap.size < w.heap.size + 1 + 1; omega)).trans (by simp)
  have hx1 : (((w.alloc (.cells #[.slice A0 l0.length c0] 25)).alloc (.cells #[.int .i64 a1] 3)).alloc (.cells #[.int .i64 a2] 3)).cell? ⟨w.heap.size + 1, 0, none⟩ = some (.int .i64 a1) := ((below_alloc (Below.refl ((w.alloc (.cells #[.slice A0 l0.length c0] 25)).alloc (.cells #[.int .i64 a1] 3)).heap.size ((w.alloc (.cells #[.slice A0 l0.length c0] 25)).alloc (.cells #[.int .i64 a1] 3))) (.cells #[.int .i64 a2] 3)).cell (p := ⟨w.heap.size + 1, 0, none⟩) (by rw [es]; show w.heap.size + 1 < w.heap.size + 1 + 1; omega)).trans (by simp)
  have g_ : ∀ (W : World) (v : Value) (t : Nat), (W.alloc (.cells #[v] t)).cell? ⟨W.heap.size, 0, none⟩ = some v := by intro W v t; simp
  have hx2 : (((w.alloc (.cells #[.slice A0 l0.length c0] 25)).alloc (.cells #[.int .i64 a1] 3)).alloc (.cells #[.int .i64 a2] 3)).cell? ⟨w.heap.size + 1 + 1, 0, none⟩ = some (.int .i64 a2) := by
    have h_ := g_ ((w.alloc (.cells #[.slice A0 l0.length c0] 25)).alloc (.cells #[.int .i64 a1] 3)) (.int .i64 a2) 3
    rw [es] at h_; exact h_
  have hs0 : w.heap.size < (((w.alloc (.cells #[.slice A0 l0.length c0] 25)).alloc (.cells #[.int .i64 a1] 3)).alloc (.cells #[.int .i64 a2] 3)).heap.size := by simp <;> omega
  have hs1 : w.heap.size + 1 < (((w.alloc (.cells #[.slice A0 l0.length c0] 25)).alloc (.cells #[.int .i64 a1] 3)).alloc (.cells #[.int .i64 a2] 3)).heap.size := by simp <;> omega
  have hs2 : w.heap.size + 1 + 1 < (((w.alloc (.cells #[.slice A0 l0.length c0] 25)).alloc (.cells #[.int .i64 a1] 3)).alloc (.cells #[.int .i64 a2] 3)).heap.size := by simp <;> omega
  have HB2 := Aside0.mk hb2
  have HBq := Aside0.mk (Below.refl (((w.alloc (.cells #[.slice A0 l0.length c0] 25)).alloc (.cells #[.int .i64 a1] 3)).alloc (.cells #[.int .i64 a2] 3)).heap.size (((w.alloc (.cells #[.slice A0 l0.length c0] 25)).alloc (.cells #[.int .i64 a1] 3)).alloc (.cells #[.int .i64 a2] 3)))
  have HS0 := Aside0.mk hs0
  have HS1 := Aside0.mk hs1
  have HS2 := Aside0.mk hs2
  have HX0 := Aside0.mk hx0
  have HX1 := Aside0.mk hx1
  have HX2 := Aside0.mk hx2
  have K0 := Aside0.mk (fun (W : World) (hb_ : Below (((w.alloc (.cells #[.slice A0 l0.length c0] 25)).alloc (.cells #[.int .i64 a1] 3)).alloc (.cells #[.int .i64 a2] 3)).heap.size (((w.alloc (.cells #[.slice A0 l0.length c0] 25)).alloc (.cells #[.int .i64 a1] 3)).alloc (.cells #[.int .i64 a2] 3)) W) => impl_SetOk.calls k A0 c0 l0 b W (Kd.C_below hr0 (below_step hb2 hb_)) hc0 hb)
  have KU := Aside0.mk (fun (W : World) => show Calls Try.prog 39 #[.int .i64 a1] W fun e w' => e = .returned (.bool (decide (1 ≤ a1 ∧ a1 ≤ 9999))) ∧ Below W.heap.size W w' from
    (impl_isUid.calls a1 _ W (show impl_isUid.f a1 = some (decide (1 ≤ a1 ∧ a1 ≤ 9999)) by unfold impl_isUid.f; rw [impl_SetDrop.impl_within_ev]; rfl)).mono (by rintro e w' ⟨rfl, m, rfl⟩; exact ⟨rfl, pw_below_drewN (Below.refl _ _) m⟩))
  have KW := Aside0.mk (fun (W : World) => impl_SetDrop.within_below a2 a1 9999 W)
  have KC := Aside0.mk (fun (W : World) (hb_ : Below (((w.alloc (.cells #[.slice A0 l0.length c0] 25)).alloc (.cells #[.int .i64 a1] 3)).alloc (.cells #[.int .i64 a2] 3)).heap.size (((w.alloc (.cells #[.slice A0 l0.length c0] 25)).alloc (.cells #[.int .i64 a1] 3)).alloc (.cells #[.int .i64 a2] 3)) W) => impl_copyRanges.calls A0 c0 l0 l0 W (Kd.C_below hr0 (below_step hb2 hb_)) hc0 (by unfold impl_copyRanges.f; rw [Option.bind_some, if_pos (by simp; omega)]; rfl))
  have GG := Aside0.mk (fun (q1 : List S45) (q2 : Bool) (hq : impl_setOf.f k ⟨impl_SetDrop.holds l0 a1 a2, 0, #[]⟩ = some (q1, q2)) (W : World) (hbW : Below (((w.alloc (.cells #[.slice A0 l0.length c0] 25)).alloc (.cells #[.int .i64 a1] 3)).alloc (.cells #[.int .i64 a2] 3)).heap.size (((w.alloc (.cells #[.slice A0 l0.length c0] 25)).alloc (.cells #[.int .i64 a1] 3)).alloc (.cells #[.int .i64 a2] 3)) W) => impl_setOf.calls k ⟨impl_SetDrop.holds l0 a1 a2, 47, #[.pointer (some ⟨w.heap.size, 0, none⟩), .pointer (some ⟨w.heap.size + 1, 0, none⟩), .pointer (some ⟨w.heap.size + 1 + 1, 0, none⟩)]⟩ q1 q2 W
    ⟨enters_of Try.func47 (by kernel_rfl) rfl, fun W2 x hbx => by
      have hbb := below_step hbW hbx
      show Calls Try.prog 47 #[.int .i64 x, .pointer (some ⟨w.heap.size, 0, none⟩), .pointer (some ⟨w.heap.size + 1, 0, none⟩), .pointer (some ⟨w.heap.size + 1 + 1, 0, none⟩)] W2 _
      exact impl_SetDrop.closure _ _ _ A0 c0 l0 a1 a2 W2 (Kd.C_below hr0 (below_step hb2 hbb)) hc0 hl ((hbb.cell (p := ⟨w.heap.size, 0, none⟩) hs0).trans hx0) ((hbb.cell (p := ⟨w.heap.size + 1, 0, none⟩) hs1).trans hx1) ((hbb.cell (p := ⟨w.heap.size + 1 + 1, 0, none⟩) hs2).trans hx2) (Nat.lt_of_lt_of_le hs1 (below_size hbb)) (Nat.lt_of_lt_of_le hs2 (below_size hbb)) x⟩
    (by unfold impl_setOf.f; rw [impl_SetDrop.pv _ 47 0 _ #[]]; exact hq))
  clear g_ es hb2 hx0 hx1 hx2 hs0 hs1 hs2 hb hr0 hc0 hl
  cases b
  · rw [if_neg (fun h => by simp at h)] at h
    obtain ⟨rfl, rfl⟩ := Prod.mk.inj (Option.some.inj h)
    clear h GG KU KW
    go_enter Try.func30, Try.ntmps30
    go_wp2_with (first | (go_at_call 18; refine (K0.out _ HBq.out).mono ?_; rintro e W1 ⟨rfl, HB⟩; have n0_ := Aside0.mk (below_step HBq.out HB); clear HBq HB; have HBq := n0_; clear n0_; have y0_1 : W1.cell? ⟨w.heap.size, 0, none⟩ = some (.slice A0 l0.length c0) := (HBq.out.cell (p := ⟨w.heap.size, 0, none⟩) HS0.out).trans HX0.out; have y1_1 : W1.cell? ⟨w.heap.size + 1, 0, none⟩ = some (.int .i64 a1) := (HBq.out.cell (p := ⟨w.heap.size + 1, 0, none⟩) HS1.out).trans HX1.out; have y2_1 : W1.cell? ⟨w.heap.size + 1 + 1, 0, none⟩ = some (.int .i64 a2) := (HBq.out.cell (p := ⟨w.heap.size + 1 + 1, 0, none⟩) HS2.out).trans HX2.out; clear K0) | (go_at_call 45; refine (KC.out _ HBq.out).mono ?_; rintro e W5 ⟨v1_, rfl, HR, HB⟩; have HRc := Aside0.mk (Kd.R_lower HR (below_size (below_step HB2.out HBq.out))); clear HR; have n0_ := Aside0.mk (below_step HBq.out HB); clear HBq HB; have HBq := n0_; clear n0_; have y0_5 : W5.cell? ⟨w.heap.size, 0, none⟩ = some (.slice A0 l0.length c0) := (HBq.out.cell (p := ⟨w.heap.size, 0, none⟩) HS0.out).trans HX0.out; have y1_5 : W5.cell? ⟨w.heap.size + 1, 0, none⟩ = some (.int .i64 a1) := (HBq.out.cell (p := ⟨w.heap.size + 1, 0, none⟩) HS1.out).trans HX1.out; have y2_5 : W5.cell? ⟨w.heap.size + 1 + 1, 0, none⟩ = some (.int .i64 a2) := (HBq.out.cell (p := ⟨w.heap.size + 1 + 1, 0, none⟩) HS2.out).trans HX2.out; clear KC))
    go_ret2
    exact ⟨_, rfl, HRc.out, below_step HB2.out HBq.out⟩
  by_cases hu : 1 ≤ a1 ∧ a1 ≤ 9999
  case neg =>
    rw [if_neg (fun h => hu h.2.1)] at h
    obtain ⟨rfl, rfl⟩ := Prod.mk.inj (Option.some.inj h)
    clear h GG KW
    rw [decide_eq_false hu] at KU
    clear hu
    go_enter Try.func30, Try.ntmps30
    go_wp2_with (first | (go_at_call 18; refine (K0.out _ HBq.out).mono ?_; rintro e W1 ⟨rfl, HB⟩; have n0_ := Aside0.mk (below_step HBq.out HB); clear HBq HB; have HBq := n0_; clear n0_; have y0_1 : W1.cell? ⟨w.heap.size, 0, none⟩ = some (.slice A0 l0.length c0) := (HBq.out.cell (p := ⟨w.heap.size, 0, none⟩) HS0.out).trans HX0.out; have y1_1 : W1.cell? ⟨w.heap.size + 1, 0, none⟩ = some (.int .i64 a1) := (HBq.out.cell (p := ⟨w.heap.size + 1, 0, none⟩) HS1.out).trans HX1.out; have y2_1 : W1.cell? ⟨w.heap.size + 1 + 1, 0, none⟩ = some (.int .i64 a2) := (HBq.out.cell (p := ⟨w.heap.size + 1 + 1, 0, none⟩) HS2.out).trans HX2.out; clear K0) | (go_at_call 39; refine (KU.out _).mono ?_; rintro e W2 ⟨rfl, HB⟩; have n0_ := Aside0.mk (below_step HBq.out HB); clear HBq HB; have HBq := n0_; clear n0_; have y0_2 : W2.cell? ⟨w.heap.size, 0, none⟩ = some (.slice A0 l0.length c0) := (HBq.out.cell (p := ⟨w.heap.size, 0, none⟩) HS0.out).trans HX0.out; have y1_2 : W2.cell? ⟨w.heap.size + 1, 0, none⟩ = some (.int .i64 a1) := (HBq.out.cell (p := ⟨w.heap.size + 1, 0, none⟩) HS1.out).trans HX1.out; have y2_2 : W2.cell? ⟨w.heap.size + 1 + 1, 0, none⟩ = some (.int .i64 a2) := (HBq.out.cell (p := ⟨w.heap.size + 1 + 1, 0, none⟩) HS2.out).trans HX2.out; clear KU) | (go_at_call 45; refine (KC.out _ HBq.out).mono ?_; rintro e W5 ⟨v1_, rfl, HR, HB⟩; have HRc := Aside0.mk (Kd.R_lower HR (below_size (below_step HB2.out HBq.out))); clear HR; have n0_ := Aside0.mk (below_step HBq.out HB); clear HBq HB; have HBq := n0_; clear n0_; have y0_5 : W5.cell? ⟨w.heap.size, 0, none⟩ = some (.slice A0 l0.length c0) := (HBq.out.cell (p := ⟨w.heap.size, 0, none⟩) HS0.out).trans HX0.out; have y1_5 : W5.cell? ⟨w.heap.size + 1, 0, none⟩ = some (.int .i64 a1) := (HBq.out.cell (p := ⟨w.heap.size + 1, 0, none⟩) HS1.out).trans HX1.out; have y2_5 : W5.cell? ⟨w.heap.size + 1 + 1, 0, none⟩ = some (.int .i64 a2) := (HBq.out.cell (p := ⟨w.heap.size + 1 + 1, 0, none⟩) HS2.out).trans HX2.out; clear KC))
    go_ret2
    exact ⟨_, rfl, HRc.out, below_step HB2.out HBq.out⟩
  rw [decide_eq_true hu] at KU
  by_cases hw : a1 ≤ a2 ∧ a2 ≤ 9999
  case neg =>
    rw [if_neg (fun h => hw h.2.2)] at h
    obtain ⟨rfl, rfl⟩ := Prod.mk.inj (Option.some.inj h)
    clear h GG
    rw [decide_eq_false hw] at KW
    clear hw hu
    go_enter Try.func30, Try.ntmps30
    go_wp2_with (first | (go_at_call 18; refine (K0.out _ HBq.out).mono ?_; rintro e W1 ⟨rfl, HB⟩; have n0_ := Aside0.mk (below_step HBq.out HB); clear HBq HB; have HBq := n0_; clear n0_; have y0_1 : W1.cell? ⟨w.heap.size, 0, none⟩ = some (.slice A0 l0.length c0) := (HBq.out.cell (p := ⟨w.heap.size, 0, none⟩) HS0.out).trans HX0.out; have y1_1 : W1.cell? ⟨w.heap.size + 1, 0, none⟩ = some (.int .i64 a1) := (HBq.out.cell (p := ⟨w.heap.size + 1, 0, none⟩) HS1.out).trans HX1.out; have y2_1 : W1.cell? ⟨w.heap.size + 1 + 1, 0, none⟩ = some (.int .i64 a2) := (HBq.out.cell (p := ⟨w.heap.size + 1 + 1, 0, none⟩) HS2.out).trans HX2.out; clear K0) | (go_at_call 39; refine (KU.out _).mono ?_; rintro e W2 ⟨rfl, HB⟩; have n0_ := Aside0.mk (below_step HBq.out HB); clear HBq HB; have HBq := n0_; clear n0_; have y0_2 : W2.cell? ⟨w.heap.size, 0, none⟩ = some (.slice A0 l0.length c0) := (HBq.out.cell (p := ⟨w.heap.size, 0, none⟩) HS0.out).trans HX0.out; have y1_2 : W2.cell? ⟨w.heap.size + 1, 0, none⟩ = some (.int .i64 a1) := (HBq.out.cell (p := ⟨w.heap.size + 1, 0, none⟩) HS1.out).trans HX1.out; have y2_2 : W2.cell? ⟨w.heap.size + 1 + 1, 0, none⟩ = some (.int .i64 a2) := (HBq.out.cell (p := ⟨w.heap.size + 1 + 1, 0, none⟩) HS2.out).trans HX2.out; clear KU) | (go_at_call 36; refine (KW.out _).mono ?_; rintro e W3 ⟨rfl, HB⟩; have n0_ := Aside0.mk (below_step HBq.out HB); clear HBq HB; have HBq := n0_; clear n0_; have y0_3 : W3.cell? ⟨w.heap.size, 0, none⟩ = some (.slice A0 l0.length c0) := (HBq.out.cell (p := ⟨w.heap.size, 0, none⟩) HS0.out).trans HX0.out; have y1_3 : W3.cell? ⟨w.heap.size + 1, 0, none⟩ = some (.int .i64 a1) := (HBq.out.cell (p := ⟨w.heap.size + 1, 0, none⟩) HS1.out).trans HX1.out; have y2_3 : W3.cell? ⟨w.heap.size + 1 + 1, 0, none⟩ = some (.int .i64 a2) := (HBq.out.cell (p := ⟨w.heap.size + 1 + 1, 0, none⟩) HS2.out).trans HX2.out; clear KW) | (go_at_call 45; refine (KC.out _ HBq.out).mono ?_; rintro e W5 ⟨v1_, rfl, HR, HB⟩; have HRc := Aside0.mk (Kd.R_lower HR (below_size (below_step HB2.out HBq.out))); clear HR; have n0_ := Aside0.mk (below_step HBq.out HB); clear HBq HB; have HBq := n0_; clear n0_; have y0_5 : W5.cell? ⟨w.heap.size, 0, none⟩ = some (.slice A0 l0.length c0) := (HBq.out.cell (p := ⟨w.heap.size, 0, none⟩) HS0.out).trans HX0.out; have y1_5 : W5.cell? ⟨w.heap.size + 1, 0, none⟩ = some (.int .i64 a1) := (HBq.out.cell (p := ⟨w.heap.size + 1, 0, none⟩) HS1.out).trans HX1.out; have y2_5 : W5.cell? ⟨w.heap.size + 1 + 1, 0, none⟩ = some (.int .i64 a2) := (HBq.out.cell (p := ⟨w.heap.size + 1 + 1, 0, none⟩) HS2.out).trans HX2.out; clear KC))
    go_ret2
    exact ⟨_, rfl, HRc.out, below_step HB2.out HBq.out⟩
  rw [decide_eq_true hw] at KW
  rw [if_pos ⟨rfl, hu, hw⟩] at h
  clear hu hw
  obtain ⟨⟨q1, q2⟩, hq, h⟩ := Option.bind_eq_some_iff.mp h
  dsimp only at h
  have GS := Aside0.mk (GG.out q1 q2 hq)
  clear GG hq
  cases q2
  · rw [if_neg (by decide)] at h
    obtain ⟨rfl, rfl⟩ := Prod.mk.inj (Option.some.inj h)
    clear h
    go_enter Try.func30, Try.ntmps30
    go_wp2_with (first | (go_at_call 18; refine (K0.out _ HBq.out).mono ?_; rintro e W1 ⟨rfl, HB⟩; have n0_ := Aside0.mk (below_step HBq.out HB); clear HBq HB; have HBq := n0_; clear n0_; have y0_1 : W1.cell? ⟨w.heap.size, 0, none⟩ = some (.slice A0 l0.length c0) := (HBq.out.cell (p := ⟨w.heap.size, 0, none⟩) HS0.out).trans HX0.out; have y1_1 : W1.cell? ⟨w.heap.size + 1, 0, none⟩ = some (.int .i64 a1) := (HBq.out.cell (p := ⟨w.heap.size + 1, 0, none⟩) HS1.out).trans HX1.out; have y2_1 : W1.cell? ⟨w.heap.size + 1 + 1, 0, none⟩ = some (.int .i64 a2) := (HBq.out.cell (p := ⟨w.heap.size + 1 + 1, 0, none⟩) HS2.out).trans HX2.out; clear K0) | (go_at_call 39; refine (KU.out _).mono ?_; rintro e W2 ⟨rfl, HB⟩; have n0_ := Aside0.mk (below_step HBq.out HB); clear HBq HB; have HBq := n0_; clear n0_; have y0_2 : W2.cell? ⟨w.heap.size, 0, none⟩ = some (.slice A0 l0.length c0) := (HBq.out.cell (p := ⟨w.heap.size, 0, none⟩) HS0.out).trans HX0.out; have y1_2 : W2.cell? ⟨w.heap.size + 1, 0, none⟩ = some (.int .i64 a1) := (HBq.out.cell (p := ⟨w.heap.size + 1, 0, none⟩) HS1.out).trans HX1.out; have y2_2 : W2.cell? ⟨w.heap.size + 1 + 1, 0, none⟩ = some (.int .i64 a2) := (HBq.out.cell (p := ⟨w.heap.size + 1 + 1, 0, none⟩) HS2.out).trans HX2.out; clear KU) | (go_at_call 36; refine (KW.out _).mono ?_; rintro e W3 ⟨rfl, HB⟩; have n0_ := Aside0.mk (below_step HBq.out HB); clear HBq HB; have HBq := n0_; clear n0_; have y0_3 : W3.cell? ⟨w.heap.size, 0, none⟩ = some (.slice A0 l0.length c0) := (HBq.out.cell (p := ⟨w.heap.size, 0, none⟩) HS0.out).trans HX0.out; have y1_3 : W3.cell? ⟨w.heap.size + 1, 0, none⟩ = some (.int .i64 a1) := (HBq.out.cell (p := ⟨w.heap.size + 1, 0, none⟩) HS1.out).trans HX1.out; have y2_3 : W3.cell? ⟨w.heap.size + 1 + 1, 0, none⟩ = some (.int .i64 a2) := (HBq.out.cell (p := ⟨w.heap.size + 1 + 1, 0, none⟩) HS2.out).trans HX2.out; clear KW) | (go_at_call 41; refine (GS.out _ HBq.out).mono ?_; rintro e W4 ⟨v0_, rfl, HR, HB⟩; have HRs := Aside0.mk (Kd.R_lower HR (below_size (below_step HB2.out HBq.out))); clear HR; have n0_ := Aside0.mk (below_step HBq.out HB); clear HBq HB; have HBq := n0_; clear n0_; have y0_4 : W4.cell? ⟨w.heap.size, 0, none⟩ = some (.slice A0 l0.length c0) := (HBq.out.cell (p := ⟨w.heap.size, 0, none⟩) HS0.out).trans HX0.out; have y1_4 : W4.cell? ⟨w.heap.size + 1, 0, none⟩ = some (.int .i64 a1) := (HBq.out.cell (p := ⟨w.heap.size + 1, 0, none⟩) HS1.out).trans HX1.out; have y2_4 : W4.cell? ⟨w.heap.size + 1 + 1, 0, none⟩ = some (.int .i64 a2) := (HBq.out.cell (p := ⟨w.heap.size + 1 + 1, 0, none⟩) HS2.out).trans HX2.out; clear GS) | (go_at_call 45; refine (KC.out _ HBq.out).mono ?_; rintro e W5 ⟨v1_, rfl, HR, HB⟩; have HRc := Aside0.mk (Kd.R_lower HR (below_size (below_step HB2.out HBq.out))); clear HR; have n0_ := Aside0.mk (below_step HBq.out HB); clear HBq HB; have HBq := n0_; clear n0_; have y0_5 : W5.cell? ⟨w.heap.size, 0, none⟩ = some (.slice A0 l0.length c0) := (HBq.out.cell (p := ⟨w.heap.size, 0, none⟩) HS0.out).trans HX0.out; have y1_5 : W5.cell? ⟨w.heap.size + 1, 0, none⟩ = some (.int .i64 a1) := (HBq.out.cell (p := ⟨w.heap.size + 1, 0, none⟩) HS1.out).trans HX1.out; have y2_5 : W5.cell? ⟨w.heap.size + 1 + 1, 0, none⟩ = some (.int .i64 a2) := (HBq.out.cell (p := ⟨w.heap.size + 1 + 1, 0, none⟩) HS2.out).trans HX2.out; clear KC))
    go_ret2
    exact ⟨_, rfl, HRc.out, below_step HB2.out HBq.out⟩
  · rw [if_pos rfl] at h
    obtain ⟨rfl, rfl⟩ := Prod.mk.inj (Option.some.inj h)
    clear h KC
    go_enter Try.func30, Try.ntmps30
    go_wp2_with (first | (go_at_call 18; refine (K0.out _ HBq.out).mono ?_; rintro e W1 ⟨rfl, HB⟩; have n0_ := Aside0.mk (below_step HBq.out HB); clear HBq HB; have HBq := n0_; clear n0_; have y0_1 : W1.cell? ⟨w.heap.size, 0, none⟩ = some (.slice A0 l0.length c0) := (HBq.out.cell (p := ⟨w.heap.size, 0, none⟩) HS0.out).trans HX0.out; have y1_1 : W1.cell? ⟨w.heap.size + 1, 0, none⟩ = some (.int .i64 a1) := (HBq.out.cell (p := ⟨w.heap.size + 1, 0, none⟩) HS1.out).trans HX1.out; have y2_1 : W1.cell? ⟨w.heap.size + 1 + 1, 0, none⟩ = some (.int .i64 a2) := (HBq.out.cell (p := ⟨w.heap.size + 1 + 1, 0, none⟩) HS2.out).trans HX2.out; clear K0) | (go_at_call 39; refine (KU.out _).mono ?_; rintro e W2 ⟨rfl, HB⟩; have n0_ := Aside0.mk (below_step HBq.out HB); clear HBq HB; have HBq := n0_; clear n0_; have y0_2 : W2.cell? ⟨w.heap.size, 0, none⟩ = some (.slice A0 l0.length c0) := (HBq.out.cell (p := ⟨w.heap.size, 0, none⟩) HS0.out).trans HX0.out; have y1_2 : W2.cell? ⟨w.heap.size + 1, 0, none⟩ = some (.int .i64 a1) := (HBq.out.cell (p := ⟨w.heap.size + 1, 0, none⟩) HS1.out).trans HX1.out; have y2_2 : W2.cell? ⟨w.heap.size + 1 + 1, 0, none⟩ = some (.int .i64 a2) := (HBq.out.cell (p := ⟨w.heap.size + 1 + 1, 0, none⟩) HS2.out).trans HX2.out; clear KU) | (go_at_call 36; refine (KW.out _).mono ?_; rintro e W3 ⟨rfl, HB⟩; have n0_ := Aside0.mk (below_step HBq.out HB); clear HBq HB; have HBq := n0_; clear n0_; have y0_3 : W3.cell? ⟨w.heap.size, 0, none⟩ = some (.slice A0 l0.length c0) := (HBq.out.cell (p := ⟨w.heap.size, 0, none⟩) HS0.out).trans HX0.out; have y1_3 : W3.cell? ⟨w.heap.size + 1, 0, none⟩ = some (.int .i64 a1) := (HBq.out.cell (p := ⟨w.heap.size + 1, 0, none⟩) HS1.out).trans HX1.out; have y2_3 : W3.cell? ⟨w.heap.size + 1 + 1, 0, none⟩ = some (.int .i64 a2) := (HBq.out.cell (p := ⟨w.heap.size + 1 + 1, 0, none⟩) HS2.out).trans HX2.out; clear KW) | (go_at_call 41; refine (GS.out _ HBq.out).mono ?_; rintro e W4 ⟨v0_, rfl, HR, HB⟩; have HRs := Aside0.mk (Kd.R_lower HR (below_size (below_step HB2.out HBq.out))); clear HR; have n0_ := Aside0.mk (below_step HBq.out HB); clear HBq HB; have HBq := n0_; clear n0_; have y0_4 : W4.cell? ⟨w.heap.size, 0, none⟩ = some (.slice A0 l0.length c0) := (HBq.out.cell (p := ⟨w.heap.size, 0, none⟩) HS0.out).trans HX0.out; have y1_4 : W4.cell? ⟨w.heap.size + 1, 0, none⟩ = some (.int .i64 a1) := (HBq.out.cell (p := ⟨w.heap.size + 1, 0, none⟩) HS1.out).trans HX1.out; have y2_4 : W4.cell? ⟨w.heap.size + 1 + 1, 0, none⟩ = some (.int .i64 a2) := (HBq.out.cell (p := ⟨w.heap.size + 1 + 1, 0, none⟩) HS2.out).trans HX2.out; clear GS))
    go_ret2
    exact ⟨_, rfl, HRs.out, below_step HB2.out HBq.out⟩


/-! ### laws_big: function 31 -/
def laws_big.f (l0 : List Int) : Option (Bool) := some (decide ((l0.length : Int) > 1048576))
set_option maxHeartbeats 8000000 in
set_option maxRecDepth 100000 in
theorem laws_big.calls (A0 : Option Addr) (c0 : Nat) (l0 : List Int) (r : Bool) (w : World) (hr0 : Kd.C (Kd.int .u8) w A0 l0.length l0) (hc0 : l0.length ≤ c0) (h : laws_big.f l0 = some r) :
    Calls Try.prog 31 #[.slice A0 l0.length c0] w fun e w' => e = .returned (.bool r) ∧ Drawn0 w w' := by
  have HR0 := Aside0.mk hr0
  have HC0 := Aside0.mk hc0
  clear hr0 hc0
  have H : (some (decide ((l0.length : Int) > 1048576))) = some r := h
  clear h
  obtain rfl := Option.some.inj H
  go_enter Try.func31, Try.ntmps31
  go_wp2
  go_ret
  exact ⟨by first | rfl | (simp; done) | (simp [*]; done), by repeat (first | exact Drawn0.refl _ | apply Drawn0.step)⟩

/-- A state of type 64 at block g of W; what its slices lead to came in by w0. -/
def IsS64 (w0 W : World) (g : Nat) (f0 : List Int) (f1 : Int) (f2 : Int) : Prop := ∃ A0 c0, W.heap[g]? = some (.cells #[.slice A0 f0.length c0, .int .i64 f1, .int .i64 f2] 64 (0, 0)) ∧ w0.heap.size ≤ g ∧ Kd.C (Kd.int .u8) w0 A0 f0.length f0
theorem IsS64.grown {w0 W : World} {g : Nat} {f0 : List Int} {f1 : Int} {f2 : Int} {W1 : World} {row : Option Nat} (h : IsS64 w0 W g f0 f1 f2) (hw : W.grownBy W1 row) (hne : some g ≠ row) : IsS64 w0 W1 g f0 f1 f2 := by
  obtain ⟨A0, c0, hb, hg, hr0⟩ := h
  exact ⟨A0, c0, blk_grown hb hw hne, hg, hr0⟩
theorem IsS64.own_neN {w0 W : World} {g : Nat} {f0 : List Int} {f1 : Int} {f2 : Int} {α : Type} {d : Kd α} {e : Nat} {base : Nat} {ok : Nat → Prop} {v : Value} {xs : List α} (h : IsS64 w0 W g f0 f1 f2) (ho : Kd.N d e W base ok v xs) (ht : e ≠ 64) : some g ≠ v.ownBlock := by
  obtain ⟨A0, c0, hb, hg, hr0⟩ := h
  exact Kd.N_ne ho hb ht
theorem IsS64.fresh {w0 W : World} {g : Nat} {f0 : List Int} {f1 : Int} {f2 : Int} (h : IsS64 w0 W g f0 f1 f2) : ∀ k, W.heap.size ≤ k → k ≠ g := by
  obtain ⟨A0, c0, hb, hg, hr0⟩ := h
  exact Kd.freshB hb
theorem IsS64.kept {w0 W : World} {g : Nat} {f0 : List Int} {f1 : Int} {f2 : Int} {W1 : World} {S : Nat → Prop} (h : IsS64 w0 W g f0 f1 f2) (hk : Kept W W1 S) (hne : ¬ S g) : IsS64 w0 W1 g f0 f1 f2 := by
  obtain ⟨A0, c0, hb, hg, hr0⟩ := h
  exact ⟨A0, c0, blk_kept hb hk hne, hg, hr0⟩
theorem IsS64.below {w0 W : World} {g : Nat} {f0 : List Int} {f1 : Int} {f2 : Int} {W1 : World} (h : IsS64 w0 W g f0 f1 f2) (hw : Below W.heap.size W W1) : IsS64 w0 W1 g f0 f1 f2 := h.grown (grown_of_below hw none) (by simp)
theorem IsS64.alloc {w0 W : World} {g : Nat} {f0 : List Int} {f1 : Int} {f2 : Int} (h : IsS64 w0 W g f0 f1 f2) (o : Obj) : IsS64 w0 (W.alloc o) g f0 f1 f2 := h.below (below_alloc (Below.refl _ _) o)
theorem IsS64.drewN {w0 W : World} {g : Nat} {f0 : List Int} {f1 : Int} {f2 : Int} (h : IsS64 w0 W g f0 f1 f2) (m : Nat) : IsS64 w0 (W.drewN m) g f0 f1 f2 := h
theorem IsS64.drew {w0 W : World} {g : Nat} {f0 : List Int} {f1 : Int} {f2 : Int} (h : IsS64 w0 W g f0 f1 f2) : IsS64 w0 W.drew g f0 f1 f2 := h
theorem IsS64.at_ {w0 W : World} {g : Nat} {f0 : List Int} {f1 : Int} {f2 : Int} {w' : World} {m : Nat} (hq : W.drewN m = w') (h : IsS64 w0 W g f0 f1 f2) : IsS64 w0 w' g f0 f1 f2 := by subst hq; exact IsS64.drewN h m
theorem IsS64.apart {w0 W : World} {g : Nat} {f0 : List Int} {f1 : Int} {f2 : Int} {α : Type} {d : Kd α} {e : Nat} {base : Nat} {ok : Nat → Prop} {v : Value} {xs : List α} (h : IsS64 w0 W g f0 f1 f2) (ho : d.R e W base ok v xs) (ht : ∀ q, q ∈ e :: d.E → q ≠ 64) : d.R e W base (fun k => ok k ∧ k ≠ g) v xs := by
  obtain ⟨A0, c0, hb, hg, hr0⟩ := h
  exact Kd.R_types ho hb ht
theorem IsS64.own_ne {w0 W : World} {g : Nat} {f0 : List Int} {f1 : Int} {f2 : Int} {α : Type} {d : Kd α} {e : Nat} {base : Nat} {ok : Nat → Prop} {v : Value} {xs : List α} (h : IsS64 w0 W g f0 f1 f2) (ho : d.R e W base ok v xs) (ht : e ≠ 64) : some g ≠ v.ownBlock := by
  obtain ⟨A0, c0, hb, hg, hr0⟩ := h
  exact Kd.R_ne ho hb ht
theorem IsS64.apartQ {w0 W : World} {g : Nat} {f0 : List Int} {f1 : Int} {f2 : Int} {α : Type} {d : Kd α} {e : Nat} {base : Nat} {ok : Nat → Prop} {v : Value} {xs : List α} (h : IsS64 w0 W g f0 f1 f2) (ho : d.Q e W base ok v xs) (ht : ∀ q, q ∈ e :: d.E → q ≠ 64) : d.Q e W base (fun k => ok k ∧ k ≠ g) v xs := by
  obtain ⟨A0, c0, hb, hg, hr0⟩ := h
  exact Kd.Q_types ho hb ht
theorem IsS64.own_neQ {w0 W : World} {g : Nat} {f0 : List Int} {f1 : Int} {f2 : Int} {α : Type} {d : Kd α} {e : Nat} {base : Nat} {ok : Nat → Prop} {v : Value} {xs : List α} (h : IsS64 w0 W g f0 f1 f2) (ho : d.Q e W base ok v xs) (ht : e ≠ 64) : some g ≠ v.ownBlock := by
  obtain ⟨A0, c0, hb, hg, hr0⟩ := h
  exact Kd.Q_ne ho hb ht
theorem IsS64.apartS {w0 W : World} {g : Nat} {f0 : List Int} {f1 : Int} {f2 : Int} {α : Type} {d : Kd α} {e : Nat} {base : Nat} {ok : Nat → Prop} {v : Value} {xs : List α} (h : IsS64 w0 W g f0 f1 f2) (ho : d.S e W base ok v xs) (ht : ∀ q, q ∈ e :: d.E → q ≠ 64) : d.S e W base (fun k => ok k ∧ k ≠ g) v xs := by
  obtain ⟨A0, c0, hb, hg, hr0⟩ := h
  exact Kd.S_types ho hb ht
theorem IsS64.own_neS {w0 W : World} {g : Nat} {f0 : List Int} {f1 : Int} {f2 : Int} {α : Type} {d : Kd α} {e : Nat} {base : Nat} {ok : Nat → Prop} {v : Value} {xs : List α} (h : IsS64 w0 W g f0 f1 f2) (ho : d.S e W base ok v xs) (ht : e ≠ 64) : some g ≠ v.ownBlock := by
  obtain ⟨A0, c0, hb, hg, hr0⟩ := h
  exact Kd.S_ne ho hb ht
theorem IsS64.lt {w0 W : World} {g : Nat} {f0 : List Int} {f1 : Int} {f2 : Int} (h : IsS64 w0 W g f0 f1 f2) : g < W.heap.size := by
  obtain ⟨A0, c0, hb, hg, hr0⟩ := h
  exact blk_lt hb
theorem IsS64.ge {w0 W : World} {g : Nat} {f0 : List Int} {f1 : Int} {f2 : Int} (h : IsS64 w0 W g f0 f1 f2) : w0.heap.size ≤ g := by
  obtain ⟨A0, c0, hb, hg, hr0⟩ := h
  exact hg
theorem IsS64.ne_blk {w0 W : World} {g : Nat} {f0 : List Int} {f1 : Int} {f2 : Int} {a : Nat} {cs : Array Value} {t : TypeId} {fr : Nat × Nat} (h : IsS64 w0 W g f0 f1 f2) (hb2 : W.heap[a]? = some (.cells cs t fr)) (ht : t ≠ 64) : g ≠ a := by
  obtain ⟨A0, c0, hb, hg, hr0⟩ := h
  rintro rfl
  rw [hb] at hb2
  injection hb2 with hb2
  injection hb2 with _ ht2
  exact ht ht2.symm
theorem IsS64.far {w0 W : World} {g : Nat} {f0 : List Int} {f1 : Int} {f2 : Int} {p : Addr} (h : IsS64 w0 W g f0 f1 f2) (hne : g ≠ p.block) (u : Value) : IsS64 w0 (W.setCell p u) g f0 f1 f2 := by
  obtain ⟨A0, c0, hb, hg, hr0⟩ := h
  exact ⟨A0, c0, blk_far hb hne u, hg, hr0⟩
theorem cellS64_0 {W : World} {g : Nat} {A0 : Option Addr} {c0 : Nat} {f0 : List Int} {f1 : Int} {f2 : Int} (h : W.heap[g]? = some (.cells #[.slice A0 f0.length c0, .int .i64 f1, .int .i64 f2] 64 (0, 0))) : W.cell? ⟨g, 0, none⟩ = some (.slice A0 f0.length c0) := (blk_cell h 0).trans rfl
theorem cellS64_1 {W : World} {g : Nat} {A0 : Option Addr} {c0 : Nat} {f0 : List Int} {f1 : Int} {f2 : Int} (h : W.heap[g]? = some (.cells #[.slice A0 f0.length c0, .int .i64 f1, .int .i64 f2] 64 (0, 0))) : W.cell? ⟨g, 1, none⟩ = some (.int .i64 f1) := (blk_cell h 1).trans rfl
theorem IsS64.set_1 {w0 W : World} {g : Nat} {f0 : List Int} {f1 : Int} {f2 : Int} (h : IsS64 w0 W g f0 f1 f2) (x : Int) : IsS64 w0 (W.setCell ⟨g, 1, none⟩ (.int .i64 x)) g f0 x f2 := by
  obtain ⟨A0, c0, hb, hg, hr0⟩ := h
  exact ⟨A0, c0, by simpa using blk_set hb 1 (.int .i64 x), hg, hr0⟩
theorem cellS64_2 {W : World} {g : Nat} {A0 : Option Addr} {c0 : Nat} {f0 : List Int} {f1 : Int} {f2 : Int} (h : W.heap[g]? = some (.cells #[.slice A0 f0.length c0, .int .i64 f1, .int .i64 f2] 64 (0, 0))) : W.cell? ⟨g, 2, none⟩ = some (.int .i64 f2) := (blk_cell h 2).trans rfl
theorem IsS64.set_2 {w0 W : World} {g : Nat} {f0 : List Int} {f1 : Int} {f2 : Int} (h : IsS64 w0 W g f0 f1 f2) (x : Int) : IsS64 w0 (W.setCell ⟨g, 2, none⟩ (.int .i64 x)) g f0 f1 x := by
  obtain ⟨A0, c0, hb, hg, hr0⟩ := h
  exact ⟨A0, c0, by simpa using blk_set hb 2 (.int .i64 x), hg, hr0⟩
theorem IsS64.new (w0 W : World) (A0 : Option Addr) (c0 : Nat) (f0 : List Int) (f1 : Int) (f2 : Int) (hB : Below w0.heap.size w0 W) (hr0 : Kd.C (Kd.int .u8) w0 A0 f0.length f0) : IsS64 w0 (W.alloc (.cells #[.slice A0 f0.length c0, .int .i64 f1, .int .i64 f2] 64)) W.heap.size f0 f1 f2 := ⟨A0, c0, by simpa using heap_alloc_new W _, hB.size, hr0⟩

/-! ### spec_l01New: function 48 -/
def spec_l01New.l0 : Nat → List Int → Int → Int → Option (List Int × Int × Int)
  | 0, _, _, _ => none
  | k + 1, x0, x3, x4 => if x4 < (x0.length : Int) then (if x4 < 4000 then (if 0 ≤ x4 then (spec_l01New.l0 k x0 (Go.bits .and .i64 (wrap64 ((wrap64 ((wrap64 (x3 * 131)) + (wrap64 (rd x0 x4)))) + 7)) 1073741823) (wrap64 (x4 + 1))) else (none)) else (some (x0, 0, x3))) else (some (x0, 0, x3))
def spec_l01New.f (k : Nat) (l0 : List Int) : Option (List Int × Int × Int) := spec_l01New.l0 k l0 (wrap64 (35201 + (l0.length : Int))) 0
theorem spec_l01New.mono_l : ∀ k, (∀ y0 y1 y2, LeO (spec_l01New.l0 k y0 y1 y2) (spec_l01New.l0 (k + 1) y0 y1 y2))
  | 0 => fun _ _ _ r h => by simp [spec_l01New.l0] at h
  | k + 1 => by
    have ih0 := spec_l01New.mono_l k
    · intro y0 y1 y2
      unfold spec_l01New.l0
      repeat' first
      | (with_reducible exact ih0 _ _ _)
      | (with_reducible exact LeO.refl _)
      | (with_reducible exact LeO.none _)
      | (with_reducible refine LeO.ite ?_ ?_)
      | (with_reducible refine LeO.bind ?_ (fun _ => ?_))
      | exact ih0 _ _ _
      | exact LeO.none _
      | refine LeO.ite ?_ ?_
      | refine LeO.bind ?_ (fun _ => ?_)
theorem spec_l01New.mono : ∀ a0 k, LeO (spec_l01New.f k a0) (spec_l01New.f (k + 1) a0) := by
  intro a0 k
  have ih0 := spec_l01New.mono_l k
  unfold spec_l01New.f
  repeat' first
      | (with_reducible exact ih0 _ _ _)
      | (with_reducible exact LeO.refl _)
      | (with_reducible exact LeO.none _)
      | (with_reducible refine LeO.ite ?_ ?_)
      | (with_reducible refine LeO.bind ?_ (fun _ => ?_))
      | exact ih0 _ _ _
      | exact LeO.none _
      | refine LeO.ite ?_ ?_
      | refine LeO.bind ?_ (fun _ => ?_)
set_option maxHeartbeats 8000000 in
set_option maxRecDepth 100000 in
theorem spec_l01New.calls (k : Nat) (A0 : Option Addr) (c0 : Nat) (l0 : List Int) (r1 : List Int) (r2 : Int) (r3 : Int) (w0 w : World) (hB : Below w0.heap.size w0 w) (hr0 : Kd.C (Kd.int .u8) w0 A0 l0.length l0) (hc0 : l0.length ≤ c0) (h : spec_l01New.f k l0 = some (r1, r2, r3)) :
    Calls Try.prog 48 #[.slice A0 l0.length c0] w fun e w' => ∃ g_ : Nat, e = .returned (.pointer (some ⟨g_, 0, none⟩)) ∧ IsS64 w0 w' g_ r1 r2 r3 ∧ Below w0.heap.size w0 w' ∧ Below w.heap.size w w' := by
  have hu64 := Try.underlying64
  have HR0 := Aside0.mk hr0
  have HC0 := Aside0.mk hc0
  clear hr0 hc0
  have HBW := Aside0.mk (Below.refl w.heap.size w)
  have HW0 := Aside0.mk hB.size
  have HB := Aside0.mk hB
  clear hB
  have H : (spec_l01New.l0 k l0 (wrap64 (35201 + (l0.length : Int))) 0) = some (r1, r2, r3) := h
  clear h
  have H' := Aside0.mk H
  clear H
  go_enter Try.func48, Try.ntmps48
  go_wp2
  go_loopg [3, 4] k (fun kq v3 v4 w' => ∃ (x3_1 : Int) (x4_1 : Int), v3 = .int .i64 x3_1 ∧ v4 = .int .i64 x4_1 ∧ Aside0 (spec_l01New.l0 kq l0 x3_1 x4_1 = some (r1, r2, r3)) ∧ Aside0 (kq ≤ k) ∧ Aside0 (Below w0.heap.size w0 w') ∧ Aside0 (Below w.heap.size w w'))
  case atStart => exact ⟨(wrap64 (35201 + (l0.length : Int))), (0), (by first | rfl | (simp; done) | (simp [*]; done)), (by first | rfl | (simp; done) | (simp [*]; done)), H', ⟨Nat.le_refl _⟩, ⟨by repeat (first | (with_reducible first | exact HB.out | apply below_alloc | apply pw_below_drewN | apply below_drew1) | exact HB.out)⟩, HBW⟩
  case round =>
    clear H'
    obtain ⟨x3_1, x4_1, rfl, rfl, HA, HK1, HB, HBW⟩ := hrel
    cases gk with
    | zero => exact absurd HA.out (by simp [spec_l01New.l0])
    | succ k1 =>
      have H := HA.out
      clear HA
      simp only [spec_l01New.l0] at H
      by_cases c2 : x4_1 < (l0.length : Int)
      · rw [if_pos c2] at H
        have c2b0 : decide (x4_1 < (l0.length : Int)) = true := decide_eq_true c2
        clear c2
        by_cases c3 : x4_1 < 4000
        · rw [if_pos c3] at H
          have c3b0 : decide (x4_1 < 4000) = true := decide_eq_true c3
          clear c3
          by_cases c4 : 0 ≤ x4_1
          · rw [if_pos c4] at H
            have c4b0 : decide (0 ≤ x4_1) = true := decide_eq_true c4
            clear c4
            have H' := Aside0.mk H
            clear H
            have p133 : 0 ≤ (x4_1 : Int) := of_decide_eq_true (by first | (with_reducible assumption) | assumption)
            have q133 : x4_1 < (l0.length : Int) := of_decide_eq_true (by first | (with_reducible assumption) | assumption)
            obtain ⟨ad133, e133, hx133_0⟩ := Kd.at_int HR0.out x4_1 p133 q133
            cases e133
            replace hx133_0 := pw_cell_below HB.out hx133_0
            replace p133 := eq_true p133
            replace q133 := eq_true q133
            go_wp2
            go_roundg k1
            case measure => have := HK1.out; omega
            case rel => exact ⟨(Go.bits .and .i64 (wrap64 ((wrap64 ((wrap64 (x3_1 * 131)) + (wrap64 (rd l0 x4_1)))) + 7)) 1073741823), (wrap64 (x4_1 + 1)), (by first | rfl | (simp; done) | (simp [*]; done)), (by first | rfl | (simp; done) | (simp [*]; done)), H', ⟨by have := HK1.out; omega⟩, ⟨by repeat (first | (with_reducible first | exact HB.out | apply below_alloc | apply pw_below_drewN | apply below_drew1) | exact HB.out)⟩, ⟨by repeat (first | (with_reducible first | exact HBW.out | apply below_alloc | apply pw_below_drewN | apply below_drew1) | exact HBW.out)⟩⟩
          · rw [if_neg c4] at H
            exact absurd H (by simp)
        · rw [if_neg c3] at H
          have c3b0 : decide (x4_1 < 4000) = false := decide_eq_false c3
          clear c3
          simp only [Option.some.injEq, Prod.mk.injEq] at H
          obtain ⟨rfl, rfl, rfl⟩ := H
          go_wp2_with (first | ((with_reducible refine gate_dst (N := 31) rfl ?_); refine box_event ?hg (N := 31) ?hd (cs := #[.slice A0 l0.length c0, .int .i64 0, .int .i64 x3_1]) (t := 64) ?hr ?_; (case hd => rfl); (case hg => rfl); (case hr => first | (go_simp; done) | (go_simp; rfl)); intro gb134 hg w5 hbox hb; have n0_ := Aside0.mk (below_step HBW.out hb); have n1_ := Aside0.mk (below_step (by repeat (first | (with_reducible first | exact HB.out | apply below_alloc | apply pw_below_drewN | apply below_drew1) | exact HB.out)) hb); have n2_ := Aside0.mk (hbox); have n3_ := Aside0.mk ((by rw [hg]; exact (below_size (by repeat (first | (with_reducible first | exact HBW.out | apply below_alloc | apply pw_below_drewN | apply below_drew1) | exact HBW.out))) : w.heap.size ≤ gb134)); have n4_ := Aside0.mk ((Nat.le_trans HW0.out (by rw [hg]; exact (below_size (by repeat (first | (with_reducible first | exact HBW.out | apply below_alloc | apply pw_below_drewN | apply below_drew1) | exact HBW.out))) : w.heap.size ≤ gb134) : w0.heap.size ≤ gb134)); clear HBW; clear HB; have HBW := n0_; have HB := n1_; have BK134 := n2_; have GW134 := n3_; have GE134 := n4_; clear n0_ n1_ n2_ n3_ n4_; clear hb hbox hg))
          go_ret
          exact ⟨_, rfl, (show IsS64 w0 _ gb134 l0 0 x3_1 from ⟨_, _, by (with_reducible repeat (first | refine blk_drewN ?_ _ | refine blk_drew ?_ | refine blk_alloc ?_ _)); exact BK134.out, GE134.out, HR0.out⟩), by repeat (first | (with_reducible first | exact HB.out | apply below_alloc | apply pw_below_drewN | apply below_drew1 | refine below_set ?_ GE134.out) | exact HB.out), by repeat (first | (with_reducible first | exact HBW.out | apply below_alloc | apply pw_below_drewN | apply below_drew1 | refine below_set ?_ GW134.out) | exact HBW.out)⟩
      · rw [if_neg c2] at H
        have c2b0 : decide (x4_1 < (l0.length : Int)) = false := decide_eq_false c2
        clear c2
        simp only [Option.some.injEq, Prod.mk.injEq] at H
        obtain ⟨rfl, rfl, rfl⟩ := H
        go_wp2_with (first | ((with_reducible refine gate_dst (N := 31) rfl ?_); refine box_event ?hg (N := 31) ?hd (cs := #[.slice A0 l0.length c0, .int .i64 0, .int .i64 x3_1]) (t := 64) ?hr ?_; (case hd => rfl); (case hg => rfl); (case hr => first | (go_simp; done) | (go_simp; rfl)); intro gb135 hg w6 hbox hb; have n0_ := Aside0.mk (below_step HBW.out hb); have n1_ := Aside0.mk (below_step (by repeat (first | (with_reducible first | exact HB.out | apply below_alloc | apply pw_below_drewN | apply below_drew1) | exact HB.out)) hb); have n2_ := Aside0.mk (hbox); have n3_ := Aside0.mk ((by rw [hg]; exact (below_size (by repeat (first | (with_reducible first | exact HBW.out | apply below_alloc | apply pw_below_drewN | apply below_drew1) | exact HBW.out))) : w.heap.size ≤ gb135)); have n4_ := Aside0.mk ((Nat.le_trans HW0.out (by rw [hg]; exact (below_size (by repeat (first | (with_reducible first | exact HBW.out | apply below_alloc | apply pw_below_drewN | apply below_drew1) | exact HBW.out))) : w.heap.size ≤ gb135) : w0.heap.size ≤ gb135)); clear HBW; clear HB; have HBW := n0_; have HB := n1_; have BK135 := n2_; have GW135 := n3_; have GE135 := n4_; clear n0_ n1_ n2_ n3_ n4_; clear hb hbox hg))
        go_ret
        exact ⟨_, rfl, (show IsS64 w0 _ gb135 l0 0 x3_1 from ⟨_, _, by (with_reducible repeat (first | refine blk_drewN ?_ _ | refine blk_drew ?_ | refine blk_alloc ?_ _)); exact BK135.out, GE135.out, HR0.out⟩), by repeat (first | (with_reducible first | exact HB.out | apply below_alloc | apply pw_below_drewN | apply below_drew1 | refine below_set ?_ GE135.out) | exact HB.out), by repeat (first | (with_reducible first | exact HBW.out | apply below_alloc | apply pw_below_drewN | apply below_drew1 | refine below_set ?_ GW135.out) | exact HBW.out)⟩

/-! ### spec_l01In: function 38 -/
def spec_l01In.f (a0 : Int) (a1 : Int) (a2 : Int) : Option (Bool) := if a0 ≥ a1 then (some (decide (a0 ≤ a2))) else (some false)
set_option maxHeartbeats 8000000 in
set_option maxRecDepth 100000 in
theorem spec_l01In.calls (a0 : Int) (a1 : Int) (a2 : Int) (r : Bool) (w : World) (h : spec_l01In.f a0 a1 a2 = some r) :
    Calls Try.prog 38 #[.int .i64 a0, .int .i64 a1, .int .i64 a2] w fun e w' => e = .returned (.bool r) ∧ Drawn0 w w' := by
  have H : (if a0 ≥ a1 then (some (decide (a0 ≤ a2))) else (some false)) = some r := h
  clear h
  by_cases c4 : a0 ≥ a1
  · rw [if_pos c4] at H
    have c4b0 : decide (a1 ≤ a0) = true := decide_eq_true c4
    clear c4
    obtain rfl := Option.some.inj H
    go_enter Try.func38, Try.ntmps38
    go_wp2
    go_ret
    exact ⟨by first | rfl | (simp; done) | (simp [*]; done), by repeat (first | exact Drawn0.refl _ | apply Drawn0.step)⟩
  · rw [if_neg c4] at H
    have c4b0 : decide (a1 ≤ a0) = false := decide_eq_false c4
    clear c4
    obtain rfl := Option.some.inj H
    go_enter Try.func38, Try.ntmps38
    go_wp2
    go_ret
    exact ⟨by first | rfl | (simp; done) | (simp [*]; done), by repeat (first | exact Drawn0.refl _ | apply Drawn0.step)⟩

end Go.Proofs.Ythngecooaddddaa.PFnSets
