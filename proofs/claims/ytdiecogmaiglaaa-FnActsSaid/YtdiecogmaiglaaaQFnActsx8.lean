import Derived.Test.YtdiecogmaiglaaaQFnActsx0
namespace Go.Proofs.Ytdiecogmaiglaaa.PFnActs
open Go.RowKit Go.Proofs.YtdiecogmaiglaaaW.PrintWords Go.Proofs.YtdiecogmaiglaaaW.PrintLast Go.Proofs.YtdiecogmaiglaaaW.PrintMore
attribute [local go_sem] max2_int min2_int max_two min_two max_three min_three max_four min_four   -- for this text's walks alone
set_option linter.unusedVariables false
set_option linter.unusedSimpArgs false

/-! ### spec_l03At: function 53 -/
def spec_l03At.l0 : Nat → ByteArray → Int → List (S45) → Option (Int)
 | 0, _, _, _ => none
 | k + 1, x1, x5, x167000 => if x5 < (x167000.length : Int) then (if 0 ≤ x5 then (if ((rd_T45 x167000 x5).f0).toList = x1.toList then (some x5) else (spec_l03At.l0 k x1 (wrap64 (x5 + 1)) x167000)) else (none)) else (some (-1))
def spec_l03At.f (k : Nat) (l0_0 : List (S45)) (a1 : ByteArray) : Option (Int) := spec_l03At.l0 k a1 0 l0_0
theorem spec_l03At.mono_l : ∀ k, (∀ y0 y1 y2, LeO (spec_l03At.l0 k y0 y1 y2) (spec_l03At.l0 (k + 1) y0 y1 y2))
 | 0 => fun _ _ _ r h => by simp [spec_l03At.l0] at h
 | k + 1 => by
  have ih0 := spec_l03At.mono_l k
  intro y0 y1 y2
  unfold spec_l03At.l0
  repeat' first
  | (with_reducible exact ih0 _ _ _)
  | (with_reducible exact LeO.refl _)
  | (with_reducible exact LeO.none _)
  | (with_reducible refine LeO.ite ?_ ?_)
  | (with_reducible refine LeO.bind ?_ (fun _ => ?_))
  | exact ih0 _ _ _
  | exact LeO.none _
  | refine LeO.ite ?_ ?_
  | refine LeO.bind ?_ (fun _ => ?_)
theorem spec_l03At.mono : ∀ a0 a1 k, LeO (spec_l03At.f k a0 a1) (spec_l03At.f (k + 1) a0 a1) := by
 intro a0 a1 k
 have ih0 := spec_l03At.mono_l k
 unfold spec_l03At.f
 repeat' first
   | (with_reducible exact ih0 _ _ _)
   | (with_reducible exact LeO.refl _)
   | (with_reducible exact LeO.none _)
   | (with_reducible refine LeO.ite ?_ ?_)
   | (with_reducible refine LeO.bind ?_ (fun _ => ?_))
   | exact ih0 _ _ _
   | exact LeO.none _
   | refine LeO.ite ?_ ?_
   | refine LeO.bind ?_ (fun _ => ?_)
set_option maxHeartbeats 8000000 in
set_option maxRecDepth 100000 in
theorem spec_l03At.calls (k : Nat) (A0_0 : Option Addr) (c0_0 : Nat) (l0_0 : List (S45)) (a1 : ByteArray) (r : Int) (w : World) (hr0_0 : Kd.C k45 w A0_0 l0_0.length l0_0) (hc0_0 : l0_0.length ≤ c0_0) (h : spec_l03At.f k l0_0 a1 = some r) :
  Calls Try.prog 53 #[.agg #[.slice A0_0 l0_0.length c0_0], .string a1] w fun e w' => e = .returned (.int .i64 r) ∧ Below w.heap.size w w' := by
 have hu29 := Try.underlying29
 have HR0_0 := Aside0.mk hr0_0
 have HC0_0 := Aside0.mk hc0_0
 clear hr0_0 hc0_0
 have HB := Aside0.mk (Below.refl w.heap.size w)
 have H : (spec_l03At.l0 k a1 0 l0_0) = some r := h
 clear h
 have H' := Aside0.mk H
 clear H
 go_enter Try.func53, Try.ntmps53
 go_wp2_with (first | ((with_reducible refine gate_dst (N := 2) rfl ?_); refine zx (N := 2) (cs := #[.slice A0_0 l0_0.length c0_0]) (t := 29) ?_; intro Ai hg w3 hbox hb; have Ae := Aside0.mk (hbox); have GW166 := zg HB hg; have GE166 := zg HB hg; replace HB := zs HB hb; clear hb hbox hg))
 go_loopg [5] k (fun kq v5 w' => ∃ (Aa : Int), v5 = .int .i64 Aa ∧ Aside0 (spec_l03At.l0 kq a1 Aa l0_0 = some r) ∧ Aside0 (kq ≤ k) ∧ Aside0 (w'.heap[Ai]? = some (.cells #[(.slice A0_0 l0_0.length c0_0)] 29 (0, 0))) ∧ Aside0 (Below w.heap.size w w'))
 case atStart => exact ⟨(0), zf, H', ⟨Nat.le_refl _⟩, ⟨zkf Ae⟩, ⟨zw HB⟩⟩
 case round =>
  clear H'
  try clear p2
  obtain ⟨Aa, rfl, HA, Ao, Ae, HB⟩ := hrel
  cases gk with
  | zero => exact absurd HA.out (by simp [spec_l03At.l0])
  | succ k1 =>
   have H := HA.out
   clear HA
   simp only [spec_l03At.l0] at H
   by_cases c4 : Aa < (l0_0.length : Int)
   ·rw [if_pos c4] at H
    have Am := decide_eq_true c4
    clear c4
    by_cases c5 : 0 ≤ Aa
    ·rw [if_pos c5] at H
     have c5b0 := decide_eq_true c5
     clear c5
     by_cases c6 : ((rd_T45 l0_0 Aa).f0).toList = a1.toList
     ·rw [if_pos c6] at H
      have Al : (((rd_T45 l0_0 Aa).f0).toList == a1.toList) = true := beq_iff_eq.mpr c6
      have Ak : (((rd_T45 l0_0 Aa).f0).toList != a1.toList) = false := bne_eq_false_iff_eq.mpr c6
      clear c6
      obtain rfl := Option.some.inj H
      obtain ⟨_, _⟩ := zc1 Ae
      have Ag : 0 ≤ (Aa : Int) := of_decide_eq_true za
      have Af : Aa < (l0_0.length : Int) := of_decide_eq_true za
      obtain ⟨Aj, Ah, Ad, Ac, Ab⟩ := at_T45 HR0_0.out Aa Ag Af
      cases Ah
      replace Ad := zU HB.out Ad
      replace Ac := zU HB.out Ac
      replace Ab := zU HB.out Ab
      replace Ag := eq_true Ag
      replace Af := eq_true Af
      go_wp2
      go_ret
      exact ⟨ze, zw HB⟩
     rw [if_neg c6] at H
     have Al : (((rd_T45 l0_0 Aa).f0).toList == a1.toList) = false := beq_eq_false_iff_ne.mpr c6
     have Ak : (((rd_T45 l0_0 Aa).f0).toList != a1.toList) = true := bne_iff_ne.mpr c6
     have H' := Aside0.mk H
     clear H
     obtain ⟨_, _⟩ := zc1 Ae
     have Ag : 0 ≤ (Aa : Int) := of_decide_eq_true za
     have Af : Aa < (l0_0.length : Int) := of_decide_eq_true za
     obtain ⟨Aj, Ah, Ad, Ac, Ab⟩ := at_T45 HR0_0.out Aa Ag Af
     cases Ah
     replace Ad := zU HB.out Ad
     replace Ac := zU HB.out Ac
     replace Ab := zU HB.out Ab
     replace Ag := eq_true Ag
     replace Af := eq_true Af
     go_wp2
     go_roundg k1
     case measure => have := Ao.out; omega
     case rel => exact ⟨(wrap64 (Aa + 1)), zf, H', ⟨by have := Ao.out; omega⟩, ⟨zkf Ae⟩, ⟨zw HB⟩⟩
    rw [if_neg c5] at H
    exact absurd H (by simp)
   rw [if_neg c4] at H
   have Am := decide_eq_false c4
   clear c4
   obtain rfl := Option.some.inj H
   obtain ⟨_, _⟩ := zc1 Ae
   go_wp2
   go_ret
   exact ⟨ze, zw HB⟩

end Go.Proofs.Ytdiecogmaiglaaa.PFnActs
