import Derived.Test.YtpeifbiboghceaaDoorQFnFlagsx0
import Derived.Test.YtpeifbiboghceaaDoorQFnFlagsx1
import Derived.Test.YtpeifbiboghceaaDoorQFnFlagsx2
import Derived.Test.YtpeifbiboghceaaDoorQFnFlagsx3
import Derived.Test.YtpeifbiboghceaaDoorQFnFlagsx4
namespace Go.Proofs.YtpeifbiboghceaaDoor.PFnFlags
open Go.RowKit Go.Proofs.YtpeifbiboghceaaDoorW.PrintWords Go.Proofs.YtpeifbiboghceaaDoorW.PrintLast Go.Proofs.YtpeifbiboghceaaDoorW.PrintMore
attribute [local go_sem] max2_int min2_int max_two min_two max_three min_three max_four min_four   -- for this text's walks alone
set_option linter.unusedVariables false
set_option linter.unusedSimpArgs false

/-! ### spec_FlagsText: function 30 -/
def spec_FlagsText.l0 : Nat → Int → ByteArray → List ByteArray → Int → Int → Option (ByteArray)
  | 0, _, _, _, _, _ => none
  | k + 1, x0, x3, x4, x5, x6 => if x6 < (x4.length : Int) then (if x5 = 0 then (none) else (if (Int.tmod (wrap64 (Int.tdiv x0 x5)) 2) = 1 then (if x3.toList = ([] : List UInt8) then (if 0 ≤ x6 then (if x3.size + (rdOf ByteArray.empty x4 x6).size ≤ 9223372036854775807 then (spec_FlagsText.l0 k x0 (x3 ++ (rdOf ByteArray.empty x4 x6)) x4 (wrap64 (2 * x5)) (wrap64 (x6 + 1))) else (none)) else (none)) else (if x3.size + 1 ≤ 9223372036854775807 then (if 0 ≤ x6 then (if (x3 ++ (⟨#[32]⟩ : ByteArray)).size + (rdOf ByteArray.empty x4 x6).size ≤ 9223372036854775807 then (spec_FlagsText.l0 k x0 ((x3 ++ (⟨#[32]⟩ : ByteArray)) ++ (rdOf ByteArray.empty x4 x6)) x4 (wrap64 (2 * x5)) (wrap64 (x6 + 1))) else (none)) else (none)) else (none))) else (spec_FlagsText.l0 k x0 x3 x4 (wrap64 (2 * x5)) (wrap64 (x6 + 1))))) else (if 1 + x3.size ≤ 9223372036854775807 then (if ((⟨#[40]⟩ : ByteArray) ++ x3).size + 1 ≤ 9223372036854775807 then (some (((⟨#[40]⟩ : ByteArray) ++ x3) ++ (⟨#[41]⟩ : ByteArray))) else (none)) else (none))
def spec_FlagsText.f (k : Nat) (a0 : Int) : Option (ByteArray) := (spec_FlagsOk.f a0).bind fun t233 => (if t233 = true then ((spec_l06Names.f).bind fun t234 => (spec_FlagsText.l0 k a0 (⟨#[]⟩ : ByteArray) t234 1 0)) else (some (⟨#[]⟩ : ByteArray)))
theorem spec_FlagsText.mono_l : ∀ k, (∀ y0 y1 y2 y3 y4, LeO (spec_FlagsText.l0 k y0 y1 y2 y3 y4) (spec_FlagsText.l0 (k + 1) y0 y1 y2 y3 y4))
  | 0 => fun _ _ _ _ _ r h => by simp [spec_FlagsText.l0] at h
  | k + 1 => by
    have ih0 := spec_FlagsText.mono_l k
    · intro y0 y1 y2 y3 y4
      unfold spec_FlagsText.l0
      repeat' first
      | (with_reducible exact ih0 _ _ _ _ _)
      | (with_reducible exact LeO.refl _)
      | (with_reducible exact LeO.none _)
      | (with_reducible refine LeO.ite ?_ ?_)
      | (with_reducible refine LeO.bind ?_ (fun _ => ?_))
      | exact ih0 _ _ _ _ _
      | exact LeO.none _
      | refine LeO.ite ?_ ?_
      | refine LeO.bind ?_ (fun _ => ?_)
theorem spec_FlagsText.mono : ∀ a0 k, LeO (spec_FlagsText.f k a0) (spec_FlagsText.f (k + 1) a0) := by
  intro a0 k
  have ih0 := spec_FlagsText.mono_l k
  unfold spec_FlagsText.f
  repeat' first
      | (with_reducible exact ih0 _ _ _ _ _)
      | (with_reducible exact LeO.refl _)
      | (with_reducible exact LeO.none _)
      | (with_reducible refine LeO.ite ?_ ?_)
      | (with_reducible refine LeO.bind ?_ (fun _ => ?_))
      | exact ih0 _ _ _ _ _
      | exact LeO.none _
      | refine LeO.ite ?_ ?_
      | refine LeO.bind ?_ (fun _ => ?_)
set_option maxHeartbeats 8000000 in
set_option maxRecDepth 100000 in
theorem spec_FlagsText.calls (k : Nat) (a0 : Int) (r : ByteArray) (w : World) (h : spec_FlagsText.f k a0 = some r) :
    Calls Tryd.prog 30 #[.int .i64 a0] w fun e w' => e = .returned (.string r) ∧ Below w.heap.size w w' := by
  have HB := Aside0.mk (Below.refl w.heap.size w)
  have H : ((spec_FlagsOk.f a0).bind fun t233 => (if t233 = true then ((spec_l06Names.f).bind fun t234 => (spec_FlagsText.l0 k a0 (⟨#[]⟩ : ByteArray) t234 1 0)) else (some (⟨#[]⟩ : ByteArray)))) = some r := h
  clear h
  replace H := Option.bind_eq_some_iff.mp H
  obtain ⟨t233, A20, H⟩ := H
  replace H : (if t233 = true then ((spec_l06Names.f).bind fun t234 => (spec_FlagsText.l0 k a0 (⟨#[]⟩ : ByteArray) t234 1 0)) else (some (⟨#[]⟩ : ByteArray))) = some r := H
  have A2 := Aside0.mk A20
  clear A20
  by_cases c3 : t233 = true
  · subst c3
    have H1 : ((spec_l06Names.f).bind fun t234 => (spec_FlagsText.l0 k a0 (⟨#[]⟩ : ByteArray) t234 1 0)) = some r := by rw [if_pos rfl] at H; exact H
    clear H
    have H := H1
    clear H1
    replace H := Option.bind_eq_some_iff.mp H
    obtain ⟨t234, A40, H⟩ := H
    replace H : (spec_FlagsText.l0 k a0 (⟨#[]⟩ : ByteArray) t234 1 0) = some r := H
    have A4 := Aside0.mk A40
    clear A40
    have H' := Aside0.mk H
    clear H
    go_enter Tryd.func30, Tryd.ntmps30
    go_wp2_with (first | ((with_reducible refine gate_callee (f := 31) rfl ?_); refine goesL_ (some 8) rfl rfl Tryd.func31 (by kernel_rfl) rfl #[.int .i64 a0] rfl (by (try simp only [List.map_toArray, List.map_cons, List.map_nil]); first | done | rfl | (simp only [List.length_drop, List.length_take]; rfl)) ?_; (with_reducible refine (spec_FlagsOk.calls a0 true _ A2.out).mono ?_); rintro e w' ⟨rfl, ⟨nd, rfl⟩⟩; refine ⟨_, rfl, ?_⟩) | ((with_reducible refine gate_callee (f := 34) rfl ?_); refine goesL_ (some 10) rfl rfl Tryd.func34 (by kernel_rfl) rfl #[] rfl (by (try simp only [List.map_toArray, List.map_cons, List.map_nil]); first | done | rfl | (simp only [List.length_drop, List.length_take]; rfl)) ?_; (with_reducible refine (spec_l06Names.calls  t234 _ A4.out).mono ?_); rintro e w5 ⟨v235, rfl, ho0, hb⟩; refine ⟨_, rfl, ?_⟩; have n0_ := Aside0.mk (Kd.R_lower ho0 (below_size (by repeat (first | (with_reducible first | exact HB.out | apply below_alloc | apply pw_below_drewN | apply below_drew1) | exact HB.out)))); have n1_ := Aside0.mk (below_step (by repeat (first | (with_reducible first | exact HB.out | apply below_alloc | apply pw_below_drewN | apply below_drew1) | exact HB.out)) hb); clear HB; have HO236 := n0_; have HB := n1_; clear n0_ n1_; (try clear hb); (try clear hb2); (try clear hk); (try clear hi); (try clear ho0)))
    go_loopg [3, 5, 6] k (fun kq v3 v5 v6 w' => ∃ (x3_1 : ByteArray) (x5_1 : Int) (x6_1 : Int), v3 = .string x3_1 ∧ v5 = .int .i64 x5_1 ∧ v6 = .int .i64 x6_1 ∧ Aside0 (spec_FlagsText.l0 kq a0 x3_1 t234 x5_1 x6_1 = some r) ∧ Aside0 (kq ≤ k) ∧ Aside0 (Kd.R Kd.string 9 w' w.heap.size (fun _ => True) v235 t234) ∧ Aside0 (Below w.heap.size w w'))
    case atStart => exact ⟨((⟨#[]⟩ : ByteArray)), (1), (0), (by first | rfl | (simp; done) | (simp [*]; done)), (by first | rfl | (simp; done) | (simp [*]; done)), (by first | rfl | (simp; done) | (simp [*]; done)), H', ⟨Nat.le_refl _⟩, ⟨by (with_reducible repeat (first | apply Kd.R_alloc | apply Kd.R_drewN | apply Kd.R_drew)); exact HO236.out⟩, ⟨by repeat (first | (with_reducible first | exact HB.out | apply below_alloc | apply pw_below_drewN | apply below_drew1) | exact HB.out)⟩⟩
    case round =>
      clear H'
      try clear p2
      try clear c3
      obtain ⟨x3_1, x5_1, x6_1, rfl, rfl, rfl, HA, HK1, HO_4, HB⟩ := hrel
      cases gk with
      | zero => exact absurd HA.out (by simp [spec_FlagsText.l0])
      | succ k1 =>
        have H := HA.out
        clear HA
        simp only [spec_FlagsText.l0] at H
        by_cases c6 : x6_1 < (t234.length : Int)
        · rw [if_pos c6] at H
          have c6b0 : decide (x6_1 < (t234.length : Int)) = true := decide_eq_true c6
          clear c6
          by_cases c7 : x5_1 = 0
          · rw [if_pos c7] at H
            exact absurd H (by simp)
          · rw [if_neg c7] at H
            have c7b0 : (x5_1 == 0) = false := beq_eq_false_iff_ne.mpr c7
            have c7b1 : (x5_1 != 0) = true := bne_iff_ne.mpr c7
            by_cases c8 : (Int.tmod (wrap64 (Int.tdiv a0 x5_1)) 2) = 1
            · rw [if_pos c8] at H
              have c8b0 : ((Int.tmod (wrap64 (Int.tdiv a0 x5_1)) 2) == 1) = true := beq_iff_eq.mpr c8
              have c8b1 : ((Int.tmod (wrap64 (Int.tdiv a0 x5_1)) 2) != 1) = false := bne_eq_false_iff_eq.mpr c8
              clear c8
              by_cases c9 : x3_1.toList = ([] : List UInt8)
              · rw [if_pos c9] at H
                have c9b0 : (x3_1.toList == ([] : List UInt8)) = true := beq_iff_eq.mpr c9
                have c9b1 : (x3_1.toList != ([] : List UInt8)) = false := bne_eq_false_iff_eq.mpr c9
                clear c9
                by_cases c10 : 0 ≤ x6_1
                · rw [if_pos c10] at H
                  have c10b0 : decide (0 ≤ x6_1) = true := decide_eq_true c10
                  clear c10
                  by_cases c11 : x3_1.size + (rdOf ByteArray.empty t234 x6_1).size ≤ 9223372036854775807
                  · rw [if_pos c11] at H
                    have c11b0 := eq_true c11
                    have c11b1 : decide (x3_1.size + (rdOf ByteArray.empty t234 x6_1).size ≤ 9223372036854775807) = true := decide_eq_true c11
                    try have c11b2 : (9223372036854775807 < x3_1.size + (rdOf ByteArray.empty t234 x6_1).size) = False := eq_false (Nat.not_lt.2 c11)
                    have H' := Aside0.mk H
                    clear H
                    obtain ⟨Ao12, co12, eo12⟩ := Kd.R_slice HO_4.out
                    subst eo12
                    have p237 : 0 ≤ (x6_1 : Int) := of_decide_eq_true (by first | (with_reducible assumption) | assumption)
                    have q237 : x6_1 < (t234.length : Int) := of_decide_eq_true (by first | (with_reducible assumption) | assumption)
                    obtain ⟨ad237, e237, hx237_0⟩ := Kd.at_string (Kd.R_reads' HO_4.out).2.2 x6_1 p237 q237
                    cases e237
                    replace p237 := eq_true p237
                    replace q237 := eq_true q237
                    go_wp2
                    go_roundg k1
                    case measure => have := HK1.out; omega
                    case rel => exact ⟨(x3_1 ++ (rdOf ByteArray.empty t234 x6_1)), (wrap64 (2 * x5_1)), (wrap64 (x6_1 + 1)), (by first | rfl | (simp; done) | (simp [*]; done)), (by first | rfl | (simp; done) | (simp [*]; done)), (by first | rfl | (simp; done) | (simp [*]; done)), H', ⟨by have := HK1.out; omega⟩, ⟨by (with_reducible repeat (first | apply Kd.R_alloc | apply Kd.R_drewN | apply Kd.R_drew)); exact HO_4.out⟩, ⟨by repeat (first | (with_reducible first | exact HB.out | apply below_alloc | apply pw_below_drewN | apply below_drew1) | exact HB.out)⟩⟩
                  · rw [if_neg c11] at H
                    exact absurd H (by simp)
                · rw [if_neg c10] at H
                  exact absurd H (by simp)
              · rw [if_neg c9] at H
                have c9b0 : (x3_1.toList == ([] : List UInt8)) = false := beq_eq_false_iff_ne.mpr c9
                have c9b1 : (x3_1.toList != ([] : List UInt8)) = true := bne_iff_ne.mpr c9
                by_cases c13 : x3_1.size + 1 ≤ 9223372036854775807
                · rw [if_pos c13] at H
                  have c13b0 := eq_true c13
                  have c13b1 : decide (x3_1.size + 1 ≤ 9223372036854775807) = true := decide_eq_true c13
                  try have c13b2 : (9223372036854775807 < x3_1.size + 1) = False := eq_false (Nat.not_lt.2 c13)
                  by_cases c14 : 0 ≤ x6_1
                  · rw [if_pos c14] at H
                    have c14b0 : decide (0 ≤ x6_1) = true := decide_eq_true c14
                    clear c14
                    by_cases c15 : (x3_1 ++ (⟨#[32]⟩ : ByteArray)).size + (rdOf ByteArray.empty t234 x6_1).size ≤ 9223372036854775807
                    · rw [if_pos c15] at H
                      have c15b0 := eq_true c15
                      have c15b1 : decide ((x3_1 ++ (⟨#[32]⟩ : ByteArray)).size + (rdOf ByteArray.empty t234 x6_1).size ≤ 9223372036854775807) = true := decide_eq_true c15
                      try have c15b2 : (9223372036854775807 < (x3_1 ++ (⟨#[32]⟩ : ByteArray)).size + (rdOf ByteArray.empty t234 x6_1).size) = False := eq_false (Nat.not_lt.2 c15)
                      try have c15b3 : (9223372036854775807 < x3_1.size + 1 + (rdOf ByteArray.empty t234 x6_1).size) = False := eq_false (Nat.not_lt.2 (by have h_ := c15; simp only [ByteArray.size_append] at h_; exact h_))
                      have H' := Aside0.mk H
                      clear H
                      obtain ⟨Ao16, co16, eo16⟩ := Kd.R_slice HO_4.out
                      subst eo16
                      have p238 : 0 ≤ (x6_1 : Int) := of_decide_eq_true (by first | (with_reducible assumption) | assumption)
                      have q238 : x6_1 < (t234.length : Int) := of_decide_eq_true (by first | (with_reducible assumption) | assumption)
                      obtain ⟨ad238, e238, hx238_0⟩ := Kd.at_string (Kd.R_reads' HO_4.out).2.2 x6_1 p238 q238
                      cases e238
                      replace p238 := eq_true p238
                      replace q238 := eq_true q238
                      go_wp2
                      go_roundg k1
                      case measure => have := HK1.out; omega
                      case rel => exact ⟨((x3_1 ++ (⟨#[32]⟩ : ByteArray)) ++ (rdOf ByteArray.empty t234 x6_1)), (wrap64 (2 * x5_1)), (wrap64 (x6_1 + 1)), (by first | rfl | (simp; done) | (simp [*]; done)), (by first | rfl | (simp; done) | (simp [*]; done)), (by first | rfl | (simp; done) | (simp [*]; done)), H', ⟨by have := HK1.out; omega⟩, ⟨by (with_reducible repeat (first | apply Kd.R_alloc | apply Kd.R_drewN | apply Kd.R_drew)); exact HO_4.out⟩, ⟨by repeat (first | (with_reducible first | exact HB.out | apply below_alloc | apply pw_below_drewN | apply below_drew1) | exact HB.out)⟩⟩
                    · rw [if_neg c15] at H
                      exact absurd H (by simp)
                  · rw [if_neg c14] at H
                    exact absurd H (by simp)
                · rw [if_neg c13] at H
                  exact absurd H (by simp)
            · rw [if_neg c8] at H
              have c8b0 : ((Int.tmod (wrap64 (Int.tdiv a0 x5_1)) 2) == 1) = false := beq_eq_false_iff_ne.mpr c8
              have c8b1 : ((Int.tmod (wrap64 (Int.tdiv a0 x5_1)) 2) != 1) = true := bne_iff_ne.mpr c8
              have H' := Aside0.mk H
              clear H
              obtain ⟨Ao17, co17, eo17⟩ := Kd.R_slice HO_4.out
              subst eo17
              go_wp2
              go_roundg k1
              case measure => have := HK1.out; omega
              case rel => exact ⟨(x3_1), (wrap64 (2 * x5_1)), (wrap64 (x6_1 + 1)), (by first | rfl | (simp; done) | (simp [*]; done)), (by first | rfl | (simp; done) | (simp [*]; done)), (by first | rfl | (simp; done) | (simp [*]; done)), H', ⟨by have := HK1.out; omega⟩, ⟨by (with_reducible repeat (first | apply Kd.R_alloc | apply Kd.R_drewN | apply Kd.R_drew)); exact HO_4.out⟩, ⟨by repeat (first | (with_reducible first | exact HB.out | apply below_alloc | apply pw_below_drewN | apply below_drew1) | exact HB.out)⟩⟩
        · rw [if_neg c6] at H
          have c6b0 : decide (x6_1 < (t234.length : Int)) = false := decide_eq_false c6
          clear c6
          by_cases c18 : 1 + x3_1.size ≤ 9223372036854775807
          · rw [if_pos c18] at H
            have c18b0 := eq_true c18
            have c18b1 : decide (1 + x3_1.size ≤ 9223372036854775807) = true := decide_eq_true c18
            try have c18b2 : (9223372036854775807 < 1 + x3_1.size) = False := eq_false (Nat.not_lt.2 c18)
            by_cases c19 : ((⟨#[40]⟩ : ByteArray) ++ x3_1).size + 1 ≤ 9223372036854775807
            · rw [if_pos c19] at H
              have c19b0 := eq_true c19
              have c19b1 : decide (((⟨#[40]⟩ : ByteArray) ++ x3_1).size + 1 ≤ 9223372036854775807) = true := decide_eq_true c19
              try have c19b2 : (9223372036854775807 < ((⟨#[40]⟩ : ByteArray) ++ x3_1).size + 1) = False := eq_false (Nat.not_lt.2 c19)
              try have c19b3 : (9223372036854775807 < 1 + x3_1.size + 1) = False := eq_false (Nat.not_lt.2 (by have h_ := c19; simp only [ByteArray.size_append] at h_; exact h_))
              obtain rfl := Option.some.inj H
              obtain ⟨Ao20, co20, eo20⟩ := Kd.R_slice HO_4.out
              subst eo20
              go_wp2
              go_ret
              exact ⟨by first | rfl | (simp [errW_none, errW_some] <;> rfl) | (simp [*, errW_none, errW_some] <;> rfl), by repeat (first | (with_reducible first | exact HB.out | apply below_alloc | apply pw_below_drewN | apply below_drew1) | exact HB.out)⟩
            · rw [if_neg c19] at H
              exact absurd H (by simp)
          · rw [if_neg c18] at H
            exact absurd H (by simp)
  · replace c3 := Bool.eq_false_iff.mpr c3
    subst c3
    have H1 : (some (⟨#[]⟩ : ByteArray)) = some r := by rw [if_neg (show ¬ (false = true) by decide)] at H; exact H
    clear H
    have H := H1
    clear H1
    obtain rfl := Option.some.inj H
    go_enter Tryd.func30, Tryd.ntmps30
    go_wp2_with (first | ((with_reducible refine gate_callee (f := 31) rfl ?_); refine goesL_ (some 8) rfl rfl Tryd.func31 (by kernel_rfl) rfl #[.int .i64 a0] rfl (by (try simp only [List.map_toArray, List.map_cons, List.map_nil]); first | done | rfl | (simp only [List.length_drop, List.length_take]; rfl)) ?_; (with_reducible refine (spec_FlagsOk.calls a0 false _ A2.out).mono ?_); rintro e w' ⟨rfl, ⟨nd, rfl⟩⟩; refine ⟨_, rfl, ?_⟩))
    go_ret
    exact ⟨by first | rfl | (simp [errW_none, errW_some] <;> rfl) | (simp [*, errW_none, errW_some] <;> rfl), by repeat (first | (with_reducible first | exact HB.out | apply below_alloc | apply pw_below_drewN | apply below_drew1) | exact HB.out)⟩

/-! ### spec_DrawReadFlags: function 12 -/
def spec_DrawReadFlags.f (k : Nat) (l0 : List Int) : Option (ByteArray) := (spec_l01New.f k l0).bind fun bt239 => ((spec_l01Below.f bt239.1 bt239.2.1 bt239.2.2 32).bind fun bt243 => ((spec_l01Pick.f bt239.1 bt243.2.1 bt243.2.2 (([(⟨#[40, 41]⟩ : ByteArray), (⟨#[40, 115, 101, 101, 110, 41]⟩ : ByteArray), (⟨#[40, 68, 101, 108, 101, 116, 101, 100, 32, 83, 69, 69, 78, 41]⟩ : ByteArray), (⟨#[40, 115, 101, 101, 110, 32, 115, 101, 101, 110, 41]⟩ : ByteArray), (⟨#[40, 32, 115, 101, 101, 110, 41]⟩ : ByteArray), (⟨#[40, 115, 101, 101, 110, 32, 41]⟩ : ByteArray), (⟨#[115, 101, 101, 110]⟩ : ByteArray), (⟨#[]⟩ : ByteArray), (⟨#[40]⟩ : ByteArray), (⟨#[40, 119, 104, 97, 116, 41]⟩ : ByteArray), (⟨#[40, 100, 114, 97, 102, 116, 32, 32, 115, 101, 101, 110, 41]⟩ : ByteArray)] : List ByteArray))).bind fun bt249 => ((spec_l01Once.f bt239.1 bt249.2.1 bt249.2.2 3).bind fun bt252 => (if bt252.1 = true then (some bt249.1) else ((spec_FlagsText.f k bt243.1).bind fun t255 => (some t255))))))
theorem spec_DrawReadFlags.mono : ∀ a0 k, LeO (spec_DrawReadFlags.f k a0) (spec_DrawReadFlags.f (k + 1) a0) := by
  intro a0 k
  unfold spec_DrawReadFlags.f
  repeat' first
      | (with_reducible exact spec_FlagsText.mono _ _)
      | (with_reducible exact spec_l01New.mono _ _)
      | (with_reducible exact LeO.refl _)
      | (with_reducible exact LeO.none _)
      | (with_reducible refine LeO.ite ?_ ?_)
      | (with_reducible refine LeO.bind ?_ (fun _ => ?_))
      | exact spec_FlagsText.mono _ _
      | exact spec_l01New.mono _ _
      | exact LeO.none _
      | refine LeO.ite ?_ ?_
      | refine LeO.bind ?_ (fun _ => ?_)
set_option maxHeartbeats 8000000 in
set_option maxRecDepth 100000 in
theorem spec_DrawReadFlags.calls (k : Nat) (A0 : Option Addr) (c0 : Nat) (l0 : List Int) (r : ByteArray) (w : World) (hr0 : Kd.C (Kd.int .u8) w A0 l0.length l0) (hc0 : l0.length ≤ c0) (h : spec_DrawReadFlags.f k l0 = some r) :
    Calls Tryd.prog 12 #[.slice A0 l0.length c0] w fun e w' => e = .returned (.string r) ∧ Below w.heap.size w w' := by
  have HR0 := Aside0.mk hr0
  have HC0 := Aside0.mk hc0
  clear hr0 hc0
  have HB := Aside0.mk (Below.refl w.heap.size w)
  have H : ((spec_l01New.f k l0).bind fun bt239 => ((spec_l01Below.f bt239.1 bt239.2.1 bt239.2.2 32).bind fun bt243 => ((spec_l01Pick.f bt239.1 bt243.2.1 bt243.2.2 (([(⟨#[40, 41]⟩ : ByteArray), (⟨#[40, 115, 101, 101, 110, 41]⟩ : ByteArray), (⟨#[40, 68, 101, 108, 101, 116, 101, 100, 32, 83, 69, 69, 78, 41]⟩ : ByteArray), (⟨#[40, 115, 101, 101, 110, 32, 115, 101, 101, 110, 41]⟩ : ByteArray), (⟨#[40, 32, 115, 101, 101, 110, 41]⟩ : ByteArray), (⟨#[40, 115, 101, 101, 110, 32, 41]⟩ : ByteArray), (⟨#[115, 101, 101, 110]⟩ : ByteArray), (⟨#[]⟩ : ByteArray), (⟨#[40]⟩ : ByteArray), (⟨#[40, 119, 104, 97, 116, 41]⟩ : ByteArray), (⟨#[40, 100, 114, 97, 102, 116, 32, 32, 115, 101, 101, 110, 41]⟩ : ByteArray)] : List ByteArray))).bind fun bt249 => ((spec_l01Once.f bt239.1 bt249.2.1 bt249.2.2 3).bind fun bt252 => (if bt252.1 = true then (some bt249.1) else ((spec_FlagsText.f k bt243.1).bind fun t255 => (some t255))))))) = some r := h
  clear h
  replace H := Option.bind_eq_some_iff.mp H
  obtain ⟨⟨t239, t240, t241⟩, A20, H⟩ := H
  replace H : ((spec_l01Below.f t239 t240 t241 32).bind fun bt243 => ((spec_l01Pick.f t239 bt243.2.1 bt243.2.2 (([(⟨#[40, 41]⟩ : ByteArray), (⟨#[40, 115, 101, 101, 110, 41]⟩ : ByteArray), (⟨#[40, 68, 101, 108, 101, 116, 101, 100, 32, 83, 69, 69, 78, 41]⟩ : ByteArray), (⟨#[40, 115, 101, 101, 110, 32, 115, 101, 101, 110, 41]⟩ : ByteArray), (⟨#[40, 32, 115, 101, 101, 110, 41]⟩ : ByteArray), (⟨#[40, 115, 101, 101, 110, 32, 41]⟩ : ByteArray), (⟨#[115, 101, 101, 110]⟩ : ByteArray), (⟨#[]⟩ : ByteArray), (⟨#[40]⟩ : ByteArray), (⟨#[40, 119, 104, 97, 116, 41]⟩ : ByteArray), (⟨#[40, 100, 114, 97, 102, 116, 32, 32, 115, 101, 101, 110, 41]⟩ : ByteArray)] : List ByteArray))).bind fun bt249 => ((spec_l01Once.f t239 bt249.2.1 bt249.2.2 3).bind fun bt252 => (if bt252.1 = true then (some bt249.1) else ((spec_FlagsText.f k bt243.1).bind fun t255 => (some t255)))))) = some r := H
  have A2 := Aside0.mk A20
  clear A20
  replace H := Option.bind_eq_some_iff.mp H
  obtain ⟨⟨t243, t244, t245⟩, A30, H⟩ := H
  replace H : ((spec_l01Pick.f t239 t244 t245 (([(⟨#[40, 41]⟩ : ByteArray), (⟨#[40, 115, 101, 101, 110, 41]⟩ : ByteArray), (⟨#[40, 68, 101, 108, 101, 116, 101, 100, 32, 83, 69, 69, 78, 41]⟩ : ByteArray), (⟨#[40, 115, 101, 101, 110, 32, 115, 101, 101, 110, 41]⟩ : ByteArray), (⟨#[40, 32, 115, 101, 101, 110, 41]⟩ : ByteArray), (⟨#[40, 115, 101, 101, 110, 32, 41]⟩ : ByteArray), (⟨#[115, 101, 101, 110]⟩ : ByteArray), (⟨#[]⟩ : ByteArray), (⟨#[40]⟩ : ByteArray), (⟨#[40, 119, 104, 97, 116, 41]⟩ : ByteArray), (⟨#[40, 100, 114, 97, 102, 116, 32, 32, 115, 101, 101, 110, 41]⟩ : ByteArray)] : List ByteArray))).bind fun bt249 => ((spec_l01Once.f t239 bt249.2.1 bt249.2.2 3).bind fun bt252 => (if bt252.1 = true then (some bt249.1) else ((spec_FlagsText.f k t243).bind fun t255 => (some t255))))) = some r := H
  have A3 := Aside0.mk A30
  clear A30
  obtain ⟨y246, hy246⟩ : ∃ y_ : List ByteArray, y_ = (([(⟨#[40, 41]⟩ : ByteArray), (⟨#[40, 115, 101, 101, 110, 41]⟩ : ByteArray), (⟨#[40, 68, 101, 108, 101, 116, 101, 100, 32, 83, 69, 69, 78, 41]⟩ : ByteArray), (⟨#[40, 115, 101, 101, 110, 32, 115, 101, 101, 110, 41]⟩ : ByteArray), (⟨#[40, 32, 115, 101, 101, 110, 41]⟩ : ByteArray), (⟨#[40, 115, 101, 101, 110, 32, 41]⟩ : ByteArray), (⟨#[115, 101, 101, 110]⟩ : ByteArray), (⟨#[]⟩ : ByteArray), (⟨#[40]⟩ : ByteArray), (⟨#[40, 119, 104, 97, 116, 41]⟩ : ByteArray), (⟨#[40, 100, 114, 97, 102, 116, 32, 32, 115, 101, 101, 110, 41]⟩ : ByteArray)] : List ByteArray)) := ⟨_, rfl⟩
  replace H : ((spec_l01Pick.f t239 t244 t245 y246).bind fun bt249 => ((spec_l01Once.f t239 bt249.2.1 bt249.2.2 3).bind fun bt252 => (if bt252.1 = true then (some bt249.1) else ((spec_FlagsText.f k t243).bind fun t255 => (some t255))))) = some r := by first | (rw [hy246]; with_reducible exact H) | (have H2_ := (Option.bind_some _ _).symm.trans H; rw [hy246]; with_reducible exact H2_) | (have H2_ := (Option.bind_some _ _).symm.trans H; with_reducible exact H2_) | with_reducible exact H | (rw [hy246]; exact H) | exact H
  have Ny246 := Aside0.mk hy246
  clear hy246
  replace H := Option.bind_eq_some_iff.mp H
  obtain ⟨⟨t249, t250, t251⟩, A40, H⟩ := H
  replace H : ((spec_l01Once.f t239 t250 t251 3).bind fun bt252 => (if bt252.1 = true then (some t249) else ((spec_FlagsText.f k t243).bind fun t255 => (some t255)))) = some r := H
  have A4 := Aside0.mk A40
  clear A40
  replace H := Option.bind_eq_some_iff.mp H
  obtain ⟨⟨t252, t253, t254⟩, A50, H⟩ := H
  replace H : (if t252 = true then (some t249) else ((spec_FlagsText.f k t243).bind fun t255 => (some t255))) = some r := H
  have A5 := Aside0.mk A50
  clear A50
  by_cases c6 : t252 = true
  · subst c6
    have H1 : (some t249) = some r := by rw [if_pos rfl] at H; exact H
    clear H
    have H := H1
    clear H1
    obtain rfl := Option.some.inj H
    go_enter Tryd.func12, Tryd.ntmps12
    go_wp2_with (first | ((with_reducible refine gate_callee (f := 22) rfl ?_); refine goesL_ (some 7) rfl rfl Tryd.func22 (by kernel_rfl) rfl #[.slice A0 l0.length c0] rfl (by (try simp only [List.map_toArray, List.map_cons, List.map_nil]); first | done | rfl | (simp only [List.length_drop, List.length_take]; rfl)) ?_; (with_reducible refine (spec_l01New.calls k _ _ l0 t239 t240 t241 w _ ?side1 ?side2 ?side3 A2.out).mono ?_); (case side1 => repeat (first | (with_reducible first | exact HB.out | apply below_alloc | apply pw_below_drewN | apply below_drew1) | exact HB.out)); (case side2 => exact HR0.out); (case side3 => exact HC0.out); rintro e w7 ⟨g242, rfl, hi, hb, hb2⟩; refine ⟨_, rfl, ?_⟩; have n0_ := Aside0.mk (hb); have n1_ := Aside0.mk (hi); clear HB; have HB := n0_; have HI242 := n1_; clear n0_ n1_; (try clear hb); (try clear hb2); (try clear hk); (try clear hi)) | ((with_reducible refine gate_callee (f := 24) rfl ?_); refine goesL_ (some 9) rfl rfl Tryd.func24 (by kernel_rfl) rfl #[.pointer (some ⟨g242, 0, none⟩), .int .i64 32] rfl (by (try simp only [List.map_toArray, List.map_cons, List.map_nil]); first | done | rfl | (simp only [List.length_drop, List.length_take]; rfl)) ?_; (with_reducible refine (spec_l01Below.calls g242 t239 t240 t241 32 t243 t244 t245 w _ ?side1 ?side2 A3.out).mono ?_); (case side1 => repeat (first | (with_reducible first | exact HI242.out | apply IsS53.alloc | apply IsS53.drewN | apply IsS53.drew | apply IsS53.set_1 | apply IsS53.set_2) | exact HI242.out)); (case side2 => repeat (first | (with_reducible first | exact HB.out | apply below_alloc | apply pw_below_drewN | apply below_drew1 | refine below_set ?_ (IsS53.ge HI242.out)) | exact HB.out)); rintro e w8 ⟨rfl, hi, hb, hk⟩; refine ⟨_, rfl, ?_⟩; have n0_ := Aside0.mk (hb); have n1_ := Aside0.mk (hi); clear HB; clear HI242; have HB := n0_; have HI242 := n1_; clear n0_ n1_; (try clear hb); (try clear hb2); (try clear hk); (try clear hi)) | ((with_reducible refine gate_dst (N := 11) rfl ?_); refine Kd.R_lit Kd.string _ 9 ?hg (N := 11) ?hd (xs := ([(⟨#[40, 41]⟩ : ByteArray), (⟨#[40, 115, 101, 101, 110, 41]⟩ : ByteArray), (⟨#[40, 68, 101, 108, 101, 116, 101, 100, 32, 83, 69, 69, 78, 41]⟩ : ByteArray), (⟨#[40, 115, 101, 101, 110, 32, 115, 101, 101, 110, 41]⟩ : ByteArray), (⟨#[40, 32, 115, 101, 101, 110, 41]⟩ : ByteArray), (⟨#[40, 115, 101, 101, 110, 32, 41]⟩ : ByteArray), (⟨#[115, 101, 101, 110]⟩ : ByteArray), (⟨#[]⟩ : ByteArray), (⟨#[40]⟩ : ByteArray), (⟨#[40, 119, 104, 97, 116, 41]⟩ : ByteArray), (⟨#[40, 100, 114, 97, 102, 116, 32, 32, 115, 101, 101, 110, 41]⟩ : ByteArray)] : List ByteArray)) (inner := [.string (⟨#[40, 41]⟩ : ByteArray), .string (⟨#[40, 115, 101, 101, 110, 41]⟩ : ByteArray), .string (⟨#[40, 68, 101, 108, 101, 116, 101, 100, 32, 83, 69, 69, 78, 41]⟩ : ByteArray), .string (⟨#[40, 115, 101, 101, 110, 32, 115, 101, 101, 110, 41]⟩ : ByteArray), .string (⟨#[40, 32, 115, 101, 101, 110, 41]⟩ : ByteArray), .string (⟨#[40, 115, 101, 101, 110, 32, 41]⟩ : ByteArray), .string (⟨#[115, 101, 101, 110]⟩ : ByteArray), .string (⟨#[]⟩ : ByteArray), .string (⟨#[40]⟩ : ByteArray), .string (⟨#[40, 119, 104, 97, 116, 41]⟩ : ByteArray), .string (⟨#[40, 100, 114, 97, 102, 116, 32, 32, 115, 101, 101, 110, 41]⟩ : ByteArray)]) (ok := fun _ => True) (okp := fun _ => True) ?hr ?hp (fun _ hk => hk) trivial (Below.refl _ _) (Nat.le_refl _) (by simp) ?_; (case hd => rfl); (case hg => rfl); (case hr => first | (go_simp; done) | (go_simp; rfl)); (case hp => exact (Reps.one (show Kd.M Kd.string _ _ _ (⟨#[40, 41]⟩ : ByteArray) [.string (⟨#[40, 41]⟩ : ByteArray)] from rfl) (Reps.one (show Kd.M Kd.string _ _ _ (⟨#[40, 115, 101, 101, 110, 41]⟩ : ByteArray) [.string (⟨#[40, 115, 101, 101, 110, 41]⟩ : ByteArray)] from rfl) (Reps.one (show Kd.M Kd.string _ _ _ (⟨#[40, 68, 101, 108, 101, 116, 101, 100, 32, 83, 69, 69, 78, 41]⟩ : ByteArray) [.string (⟨#[40, 68, 101, 108, 101, 116, 101, 100, 32, 83, 69, 69, 78, 41]⟩ : ByteArray)] from rfl) (Reps.one (show Kd.M Kd.string _ _ _ (⟨#[40, 115, 101, 101, 110, 32, 115, 101, 101, 110, 41]⟩ : ByteArray) [.string (⟨#[40, 115, 101, 101, 110, 32, 115, 101, 101, 110, 41]⟩ : ByteArray)] from rfl) (Reps.one (show Kd.M Kd.string _ _ _ (⟨#[40, 32, 115, 101, 101, 110, 41]⟩ : ByteArray) [.string (⟨#[40, 32, 115, 101, 101, 110, 41]⟩ : ByteArray)] from rfl) (Reps.one (show Kd.M Kd.string _ _ _ (⟨#[40, 115, 101, 101, 110, 32, 41]⟩ : ByteArray) [.string (⟨#[40, 115, 101, 101, 110, 32, 41]⟩ : ByteArray)] from rfl) (Reps.one (show Kd.M Kd.string _ _ _ (⟨#[115, 101, 101, 110]⟩ : ByteArray) [.string (⟨#[115, 101, 101, 110]⟩ : ByteArray)] from rfl) (Reps.one (show Kd.M Kd.string _ _ _ (⟨#[]⟩ : ByteArray) [.string (⟨#[]⟩ : ByteArray)] from rfl) (Reps.one (show Kd.M Kd.string _ _ _ (⟨#[40]⟩ : ByteArray) [.string (⟨#[40]⟩ : ByteArray)] from rfl) (Reps.one (show Kd.M Kd.string _ _ _ (⟨#[40, 119, 104, 97, 116, 41]⟩ : ByteArray) [.string (⟨#[40, 119, 104, 97, 116, 41]⟩ : ByteArray)] from rfl) (Reps.one (show Kd.M Kd.string _ _ _ (⟨#[40, 100, 114, 97, 102, 116, 32, 32, 115, 101, 101, 110, 41]⟩ : ByteArray) [.string (⟨#[40, 100, 114, 97, 102, 116, 32, 32, 115, 101, 101, 110, 41]⟩ : ByteArray)] from rfl) (Reps.none _ _))))))))))))); intro v247 w9 ho10 hb hg_ hnew_; clear hg_ hnew_; (first | rw [← Ny246.out] at ho10 | (simp only [Int.reduceToNat] at ho10; rw [← Ny246.out] at ho10)); have n0_ := Aside0.mk (Kd.R_lower ho10 (below_size (by repeat (first | (with_reducible first | exact HB.out | apply below_alloc | apply pw_below_drewN | apply below_drew1 | refine below_set ?_ (IsS53.ge HI242.out)) | exact HB.out)))); have n1_ := Aside0.mk (IsS53.below (by repeat (first | (with_reducible first | exact HI242.out | apply IsS53.alloc | apply IsS53.drewN | apply IsS53.drew | apply IsS53.set_1 | apply IsS53.set_2) | exact HI242.out)) hb); have n2_ := Aside0.mk (below_step (by repeat (first | (with_reducible first | exact HB.out | apply below_alloc | apply pw_below_drewN | apply below_drew1 | refine below_set ?_ (IsS53.ge HI242.out)) | exact HB.out)) hb); clear HI242; clear HB; have HO248 := n0_; have HI242 := n1_; have HB := n2_; clear n0_ n1_ n2_; clear hb ho10; obtain ⟨Ao11, co11, eo11⟩ := Kd.R_slice HO248.out; subst eo11) | ((with_reducible refine gate_callee (f := 28) rfl ?_); refine goesL_ (some 12) rfl rfl Tryd.func28 (by kernel_rfl) rfl #[.pointer (some ⟨g242, 0, none⟩), .slice Ao11 y246.length co11] rfl (by (try simp only [List.map_toArray, List.map_cons, List.map_nil]); first | done | rfl | (simp only [List.length_drop, List.length_take]; rfl)) ?_; (with_reducible refine (spec_l01Pick.calls g242 t239 t244 t245 _ _ y246 t249 t250 t251 w _ ?side1 ?side2 ?side3 ?side4 ?side5 A4.out).mono ?_); (case side1 => repeat (first | (with_reducible first | exact HI242.out | apply IsS53.alloc | apply IsS53.drewN | apply IsS53.drew | apply IsS53.set_1 | apply IsS53.set_2) | exact HI242.out)); (case side2 => repeat (first | (with_reducible first | exact HB.out | apply below_alloc | apply pw_below_drewN | apply below_drew1 | refine below_set ?_ (IsS53.ge HI242.out)) | exact HB.out)); (case side3 => repeat (first | exact (Kd.R_reads' HO248.out).2.2 | (with_reducible refine Kd.C_alloc ?_ _) | (with_reducible refine Kd.C_drewN ?_ _) | (with_reducible refine Kd.C_drew ?_))); (case side4 => exact (Kd.R_reads' HO248.out).2.1); (case side5 => exact far_slice (IsS53.own_ne HI242.out HO248.out (by decide))); rintro e w12 ⟨rfl, hi, hb, hk⟩; refine ⟨_, rfl, ?_⟩; have n0_ := Aside0.mk (Kd.R_mono (Kd.R_keep (IsS53.apart (show IsS53 w _ g242 t239 t244 t245 from by repeat (first | (with_reducible first | exact HI242.out | apply IsS53.alloc | apply IsS53.drewN | apply IsS53.drew | apply IsS53.set_1 | apply IsS53.set_2) | exact HI242.out)) (by (with_reducible repeat (first | apply Kd.R_alloc | apply Kd.R_drewN | apply Kd.R_drew)); exact HO248.out) (by decide)) hk (fun _ h => h.2)) (fun _ h => h.1)); have n1_ := Aside0.mk (hb); have n2_ := Aside0.mk (hi); clear HO248; clear HB; clear HI242; have HO248 := n0_; have HB := n1_; have HI242 := n2_; clear n0_ n1_ n2_; (try clear hb); (try clear hb2); (try clear hk); (try clear hi)) | ((with_reducible refine gate_callee (f := 29) rfl ?_); refine goesL_ (some 14) rfl rfl Tryd.func29 (by kernel_rfl) rfl #[.pointer (some ⟨g242, 0, none⟩), .int .i64 3] rfl (by (try simp only [List.map_toArray, List.map_cons, List.map_nil]); first | done | rfl | (simp only [List.length_drop, List.length_take]; rfl)) ?_; (with_reducible refine (spec_l01Once.calls g242 t239 t250 t251 3 true t253 t254 w _ ?side1 ?side2 A5.out).mono ?_); (case side1 => repeat (first | (with_reducible first | exact HI242.out | apply IsS53.alloc | apply IsS53.drewN | apply IsS53.drew | apply IsS53.set_1 | apply IsS53.set_2) | exact HI242.out)); (case side2 => repeat (first | (with_reducible first | exact HB.out | apply below_alloc | apply pw_below_drewN | apply below_drew1 | refine below_set ?_ (IsS53.ge HI242.out)) | exact HB.out)); rintro e w13 ⟨rfl, hi, hb, hk⟩; refine ⟨_, rfl, ?_⟩; have n0_ := Aside0.mk (Kd.R_mono (Kd.R_keep (IsS53.apart (show IsS53 w _ g242 t239 t250 t251 from by repeat (first | (with_reducible first | exact HI242.out | apply IsS53.alloc | apply IsS53.drewN | apply IsS53.drew | apply IsS53.set_1 | apply IsS53.set_2) | exact HI242.out)) (by (with_reducible repeat (first | apply Kd.R_alloc | apply Kd.R_drewN | apply Kd.R_drew)); exact HO248.out) (by decide)) hk (fun _ h => h.2)) (fun _ h => h.1)); have n1_ := Aside0.mk (hb); have n2_ := Aside0.mk (hi); clear HO248; clear HB; clear HI242; have HO248 := n0_; have HB := n1_; have HI242 := n2_; clear n0_ n1_ n2_; (try clear hb); (try clear hb2); (try clear hk); (try clear hi)))
    go_ret
    exact ⟨by first | rfl | (simp [errW_none, errW_some] <;> rfl) | (simp [*, errW_none, errW_some] <;> rfl), by repeat (first | (with_reducible first | exact HB.out | apply below_alloc | apply pw_below_drewN | apply below_drew1 | refine below_set ?_ (IsS53.ge HI242.out)) | exact HB.out)⟩
  · replace c6 := Bool.eq_false_iff.mpr c6
    subst c6
    have H1 : ((spec_FlagsText.f k t243).bind fun t255 => (some t255)) = some r := by rw [if_neg (show ¬ (false = true) by decide)] at H; exact H
    clear H
    have H := H1
    clear H1
    replace H := Option.bind_eq_some_iff.mp H
    obtain ⟨t255, A140, H⟩ := H
    replace H : (some t255) = some r := H
    have A14 := Aside0.mk A140
    clear A140
    obtain rfl := Option.some.inj H
    go_enter Tryd.func12, Tryd.ntmps12
    go_wp2_with (first | ((with_reducible refine gate_callee (f := 22) rfl ?_); refine goesL_ (some 7) rfl rfl Tryd.func22 (by kernel_rfl) rfl #[.slice A0 l0.length c0] rfl (by (try simp only [List.map_toArray, List.map_cons, List.map_nil]); first | done | rfl | (simp only [List.length_drop, List.length_take]; rfl)) ?_; (with_reducible refine (spec_l01New.calls k _ _ l0 t239 t240 t241 w _ ?side1 ?side2 ?side3 A2.out).mono ?_); (case side1 => repeat (first | (with_reducible first | exact HB.out | apply below_alloc | apply pw_below_drewN | apply below_drew1) | exact HB.out)); (case side2 => exact HR0.out); (case side3 => exact HC0.out); rintro e w15 ⟨g242, rfl, hi, hb, hb2⟩; refine ⟨_, rfl, ?_⟩; have n0_ := Aside0.mk (hb); have n1_ := Aside0.mk (hi); clear HB; have HB := n0_; have HI242 := n1_; clear n0_ n1_; (try clear hb); (try clear hb2); (try clear hk); (try clear hi)) | ((with_reducible refine gate_callee (f := 24) rfl ?_); refine goesL_ (some 9) rfl rfl Tryd.func24 (by kernel_rfl) rfl #[.pointer (some ⟨g242, 0, none⟩), .int .i64 32] rfl (by (try simp only [List.map_toArray, List.map_cons, List.map_nil]); first | done | rfl | (simp only [List.length_drop, List.length_take]; rfl)) ?_; (with_reducible refine (spec_l01Below.calls g242 t239 t240 t241 32 t243 t244 t245 w _ ?side1 ?side2 A3.out).mono ?_); (case side1 => repeat (first | (with_reducible first | exact HI242.out | apply IsS53.alloc | apply IsS53.drewN | apply IsS53.drew | apply IsS53.set_1 | apply IsS53.set_2) | exact HI242.out)); (case side2 => repeat (first | (with_reducible first | exact HB.out | apply below_alloc | apply pw_below_drewN | apply below_drew1 | refine below_set ?_ (IsS53.ge HI242.out)) | exact HB.out)); rintro e w16 ⟨rfl, hi, hb, hk⟩; refine ⟨_, rfl, ?_⟩; have n0_ := Aside0.mk (hb); have n1_ := Aside0.mk (hi); clear HB; clear HI242; have HB := n0_; have HI242 := n1_; clear n0_ n1_; (try clear hb); (try clear hb2); (try clear hk); (try clear hi)) | ((with_reducible refine gate_dst (N := 11) rfl ?_); refine Kd.R_lit Kd.string _ 9 ?hg (N := 11) ?hd (xs := ([(⟨#[40, 41]⟩ : ByteArray), (⟨#[40, 115, 101, 101, 110, 41]⟩ : ByteArray), (⟨#[40, 68, 101, 108, 101, 116, 101, 100, 32, 83, 69, 69, 78, 41]⟩ : ByteArray), (⟨#[40, 115, 101, 101, 110, 32, 115, 101, 101, 110, 41]⟩ : ByteArray), (⟨#[40, 32, 115, 101, 101, 110, 41]⟩ : ByteArray), (⟨#[40, 115, 101, 101, 110, 32, 41]⟩ : ByteArray), (⟨#[115, 101, 101, 110]⟩ : ByteArray), (⟨#[]⟩ : ByteArray), (⟨#[40]⟩ : ByteArray), (⟨#[40, 119, 104, 97, 116, 41]⟩ : ByteArray), (⟨#[40, 100, 114, 97, 102, 116, 32, 32, 115, 101, 101, 110, 41]⟩ : ByteArray)] : List ByteArray)) (inner := [.string (⟨#[40, 41]⟩ : ByteArray), .string (⟨#[40, 115, 101, 101, 110, 41]⟩ : ByteArray), .string (⟨#[40, 68, 101, 108, 101, 116, 101, 100, 32, 83, 69, 69, 78, 41]⟩ : ByteArray), .string (⟨#[40, 115, 101, 101, 110, 32, 115, 101, 101, 110, 41]⟩ : ByteArray), .string (⟨#[40, 32, 115, 101, 101, 110, 41]⟩ : ByteArray), .string (⟨#[40, 115, 101, 101, 110, 32, 41]⟩ : ByteArray), .string (⟨#[115, 101, 101, 110]⟩ : ByteArray), .string (⟨#[]⟩ : ByteArray), .string (⟨#[40]⟩ : ByteArray), .string (⟨#[40, 119, 104, 97, 116, 41]⟩ : ByteArray), .string (⟨#[40, 100, 114, 97, 102, 116, 32, 32, 115, 101, 101, 110, 41]⟩ : ByteArray)]) (ok := fun _ => True) (okp := fun _ => True) ?hr ?hp (fun _ hk => hk) trivial (Below.refl _ _) (Nat.le_refl _) (by simp) ?_; (case hd => rfl); (case hg => rfl); (case hr => first | (go_simp; done) | (go_simp; rfl)); (case hp => exact (Reps.one (show Kd.M Kd.string _ _ _ (⟨#[40, 41]⟩ : ByteArray) [.string (⟨#[40, 41]⟩ : ByteArray)] from rfl) (Reps.one (show Kd.M Kd.string _ _ _ (⟨#[40, 115, 101, 101, 110, 41]⟩ : ByteArray) [.string (⟨#[40, 115, 101, 101, 110, 41]⟩ : ByteArray)] from rfl) (Reps.one (show Kd.M Kd.string _ _ _ (⟨#[40, 68, 101, 108, 101, 116, 101, 100, 32, 83, 69, 69, 78, 41]⟩ : ByteArray) [.string (⟨#[40, 68, 101, 108, 101, 116, 101, 100, 32, 83, 69, 69, 78, 41]⟩ : ByteArray)] from rfl) (Reps.one (show Kd.M Kd.string _ _ _ (⟨#[40, 115, 101, 101, 110, 32, 115, 101, 101, 110, 41]⟩ : ByteArray) [.string (⟨#[40, 115, 101, 101, 110, 32, 115, 101, 101, 110, 41]⟩ : ByteArray)] from rfl) (Reps.one (show Kd.M Kd.string _ _ _ (⟨#[40, 32, 115, 101, 101, 110, 41]⟩ : ByteArray) [.string (⟨#[40, 32, 115, 101, 101, 110, 41]⟩ : ByteArray)] from rfl) (Reps.one (show Kd.M Kd.string _ _ _ (⟨#[40, 115, 101, 101, 110, 32, 41]⟩ : ByteArray) [.string (⟨#[40, 115, 101, 101, 110, 32, 41]⟩ : ByteArray)] from rfl) (Reps.one (show Kd.M Kd.string _ _ _ (⟨#[115, 101, 101, 110]⟩ : ByteArray) [.string (⟨#[115, 101, 101, 110]⟩ : ByteArray)] from rfl) (Reps.one (show Kd.M Kd.string _ _ _ (⟨#[]⟩ : ByteArray) [.string (⟨#[]⟩ : ByteArray)] from rfl) (Reps.one (show Kd.M Kd.string _ _ _ (⟨#[40]⟩ : ByteArray) [.string (⟨#[40]⟩ : ByteArray)] from rfl) (Reps.one (show Kd.M Kd.string _ _ _ (⟨#[40, 119, 104, 97, 116, 41]⟩ : ByteArray) [.string (⟨#[40, 119, 104, 97, 116, 41]⟩ : ByteArray)] from rfl) (Reps.one (show Kd.M Kd.string _ _ _ (⟨#[40, 100, 114, 97, 102, 116, 32, 32, 115, 101, 101, 110, 41]⟩ : ByteArray) [.string (⟨#[40, 100, 114, 97, 102, 116, 32, 32, 115, 101, 101, 110, 41]⟩ : ByteArray)] from rfl) (Reps.none _ _))))))))))))); intro v247 w17 ho18 hb hg_ hnew_; clear hg_ hnew_; (first | rw [← Ny246.out] at ho18 | (simp only [Int.reduceToNat] at ho18; rw [← Ny246.out] at ho18)); have n0_ := Aside0.mk (Kd.R_lower ho18 (below_size (by repeat (first | (with_reducible first | exact HB.out | apply below_alloc | apply pw_below_drewN | apply below_drew1 | refine below_set ?_ (IsS53.ge HI242.out)) | exact HB.out)))); have n1_ := Aside0.mk (IsS53.below (by repeat (first | (with_reducible first | exact HI242.out | apply IsS53.alloc | apply IsS53.drewN | apply IsS53.drew | apply IsS53.set_1 | apply IsS53.set_2) | exact HI242.out)) hb); have n2_ := Aside0.mk (below_step (by repeat (first | (with_reducible first | exact HB.out | apply below_alloc | apply pw_below_drewN | apply below_drew1 | refine below_set ?_ (IsS53.ge HI242.out)) | exact HB.out)) hb); clear HI242; clear HB; have HO248 := n0_; have HI242 := n1_; have HB := n2_; clear n0_ n1_ n2_; clear hb ho18; obtain ⟨Ao19, co19, eo19⟩ := Kd.R_slice HO248.out; subst eo19) | ((with_reducible refine gate_callee (f := 28) rfl ?_); refine goesL_ (some 12) rfl rfl Tryd.func28 (by kernel_rfl) rfl #[.pointer (some ⟨g242, 0, none⟩), .slice Ao19 y246.length co19] rfl (by (try simp only [List.map_toArray, List.map_cons, List.map_nil]); first | done | rfl | (simp only [List.length_drop, List.length_take]; rfl)) ?_; (with_reducible refine (spec_l01Pick.calls g242 t239 t244 t245 _ _ y246 t249 t250 t251 w _ ?side1 ?side2 ?side3 ?side4 ?side5 A4.out).mono ?_); (case side1 => repeat (first | (with_reducible first | exact HI242.out | apply IsS53.alloc | apply IsS53.drewN | apply IsS53.drew | apply IsS53.set_1 | apply IsS53.set_2) | exact HI242.out)); (case side2 => repeat (first | (with_reducible first | exact HB.out | apply below_alloc | apply pw_below_drewN | apply below_drew1 | refine below_set ?_ (IsS53.ge HI242.out)) | exact HB.out)); (case side3 => repeat (first | exact (Kd.R_reads' HO248.out).2.2 | (with_reducible refine Kd.C_alloc ?_ _) | (with_reducible refine Kd.C_drewN ?_ _) | (with_reducible refine Kd.C_drew ?_))); (case side4 => exact (Kd.R_reads' HO248.out).2.1); (case side5 => exact far_slice (IsS53.own_ne HI242.out HO248.out (by decide))); rintro e w20 ⟨rfl, hi, hb, hk⟩; refine ⟨_, rfl, ?_⟩; have n0_ := Aside0.mk (Kd.R_mono (Kd.R_keep (IsS53.apart (show IsS53 w _ g242 t239 t244 t245 from by repeat (first | (with_reducible first | exact HI242.out | apply IsS53.alloc | apply IsS53.drewN | apply IsS53.drew | apply IsS53.set_1 | apply IsS53.set_2) | exact HI242.out)) (by (with_reducible repeat (first | apply Kd.R_alloc | apply Kd.R_drewN | apply Kd.R_drew)); exact HO248.out) (by decide)) hk (fun _ h => h.2)) (fun _ h => h.1)); have n1_ := Aside0.mk (hb); have n2_ := Aside0.mk (hi); clear HO248; clear HB; clear HI242; have HO248 := n0_; have HB := n1_; have HI242 := n2_; clear n0_ n1_ n2_; (try clear hb); (try clear hb2); (try clear hk); (try clear hi)) | ((with_reducible refine gate_callee (f := 29) rfl ?_); refine goesL_ (some 14) rfl rfl Tryd.func29 (by kernel_rfl) rfl #[.pointer (some ⟨g242, 0, none⟩), .int .i64 3] rfl (by (try simp only [List.map_toArray, List.map_cons, List.map_nil]); first | done | rfl | (simp only [List.length_drop, List.length_take]; rfl)) ?_; (with_reducible refine (spec_l01Once.calls g242 t239 t250 t251 3 false t253 t254 w _ ?side1 ?side2 A5.out).mono ?_); (case side1 => repeat (first | (with_reducible first | exact HI242.out | apply IsS53.alloc | apply IsS53.drewN | apply IsS53.drew | apply IsS53.set_1 | apply IsS53.set_2) | exact HI242.out)); (case side2 => repeat (first | (with_reducible first | exact HB.out | apply below_alloc | apply pw_below_drewN | apply below_drew1 | refine below_set ?_ (IsS53.ge HI242.out)) | exact HB.out)); rintro e w21 ⟨rfl, hi, hb, hk⟩; refine ⟨_, rfl, ?_⟩; have n0_ := Aside0.mk (Kd.R_mono (Kd.R_keep (IsS53.apart (show IsS53 w _ g242 t239 t250 t251 from by repeat (first | (with_reducible first | exact HI242.out | apply IsS53.alloc | apply IsS53.drewN | apply IsS53.drew | apply IsS53.set_1 | apply IsS53.set_2) | exact HI242.out)) (by (with_reducible repeat (first | apply Kd.R_alloc | apply Kd.R_drewN | apply Kd.R_drew)); exact HO248.out) (by decide)) hk (fun _ h => h.2)) (fun _ h => h.1)); have n1_ := Aside0.mk (hb); have n2_ := Aside0.mk (hi); clear HO248; clear HB; clear HI242; have HO248 := n0_; have HB := n1_; have HI242 := n2_; clear n0_ n1_ n2_; (try clear hb); (try clear hb2); (try clear hk); (try clear hi)) | ((with_reducible refine gate_callee (f := 30) rfl ?_); refine goesL_ (some 17) rfl rfl Tryd.func30 (by kernel_rfl) rfl #[.int .i64 t243] rfl (by (try simp only [List.map_toArray, List.map_cons, List.map_nil]); first | done | rfl | (simp only [List.length_drop, List.length_take]; rfl)) ?_; (with_reducible refine (spec_FlagsText.calls k t243 t255 _ A14.out).mono ?_); rintro e w22 ⟨rfl, hb⟩; refine ⟨_, rfl, ?_⟩; have n0_ := Aside0.mk (Kd.R_below (by (with_reducible repeat (first | apply Kd.R_alloc | apply Kd.R_drewN | apply Kd.R_drew)); exact HO248.out) hb); have n1_ := Aside0.mk (IsS53.below (by repeat (first | (with_reducible first | exact HI242.out | apply IsS53.alloc | apply IsS53.drewN | apply IsS53.drew | apply IsS53.set_1 | apply IsS53.set_2) | exact HI242.out)) hb); have n2_ := Aside0.mk (below_step (by repeat (first | (with_reducible first | exact HB.out | apply below_alloc | apply pw_below_drewN | apply below_drew1 | refine below_set ?_ (IsS53.ge HI242.out)) | exact HB.out)) hb); clear HO248; clear HI242; clear HB; have HO248 := n0_; have HI242 := n1_; have HB := n2_; clear n0_ n1_ n2_; (try clear hb); (try clear hb2); (try clear hk); (try clear hi)))
    go_ret
    exact ⟨by first | rfl | (simp [errW_none, errW_some] <;> rfl) | (simp [*, errW_none, errW_some] <;> rfl), by repeat (first | (with_reducible first | exact HB.out | apply below_alloc | apply pw_below_drewN | apply below_drew1 | refine below_set ?_ (IsS53.ge HI242.out)) | exact HB.out)⟩

/-! ### spec_l06And: function 32 -/
def spec_l06And.l0 : Nat → Int → Int → Int → Int → Option (Int)
  | 0, _, _, _, _ => none
  | k + 1, x0, x1, x5, x6 => if x6 ≤ 16 then (if x6 = 0 then (none) else (if (Int.tmod (wrap64 (Int.tdiv x0 x6)) 2) = 1 then (if (Int.tmod (wrap64 (Int.tdiv x1 x6)) 2) = 1 then (spec_l06And.l0 k x0 x1 (wrap64 (x5 + x6)) (wrap64 (2 * x6))) else (spec_l06And.l0 k x0 x1 x5 (wrap64 (2 * x6)))) else (spec_l06And.l0 k x0 x1 x5 (wrap64 (2 * x6))))) else (some x5)
def spec_l06And.f (k : Nat) (a0 : Int) (a1 : Int) : Option (Int) := spec_l06And.l0 k a0 a1 0 1
theorem spec_l06And.mono_l : ∀ k, (∀ y0 y1 y2 y3, LeO (spec_l06And.l0 k y0 y1 y2 y3) (spec_l06And.l0 (k + 1) y0 y1 y2 y3))
  | 0 => fun _ _ _ _ r h => by simp [spec_l06And.l0] at h
  | k + 1 => by
    have ih0 := spec_l06And.mono_l k
    · intro y0 y1 y2 y3
      unfold spec_l06And.l0
      repeat' first
      | (with_reducible exact ih0 _ _ _ _)
      | (with_reducible exact LeO.refl _)
      | (with_reducible exact LeO.none _)
      | (with_reducible refine LeO.ite ?_ ?_)
      | (with_reducible refine LeO.bind ?_ (fun _ => ?_))
      | exact ih0 _ _ _ _
      | exact LeO.none _
      | refine LeO.ite ?_ ?_
      | refine LeO.bind ?_ (fun _ => ?_)
theorem spec_l06And.mono : ∀ a0 a1 k, LeO (spec_l06And.f k a0 a1) (spec_l06And.f (k + 1) a0 a1) := by
  intro a0 a1 k
  have ih0 := spec_l06And.mono_l k
  unfold spec_l06And.f
  repeat' first
      | (with_reducible exact ih0 _ _ _ _)
      | (with_reducible exact LeO.refl _)
      | (with_reducible exact LeO.none _)
      | (with_reducible refine LeO.ite ?_ ?_)
      | (with_reducible refine LeO.bind ?_ (fun _ => ?_))
      | exact ih0 _ _ _ _
      | exact LeO.none _
      | refine LeO.ite ?_ ?_
      | refine LeO.bind ?_ (fun _ => ?_)
set_option maxHeartbeats 8000000 in
set_option maxRecDepth 100000 in
theorem spec_l06And.calls (k : Nat) (a0 : Int) (a1 : Int) (r : Int) (w : World) (h : spec_l06And.f k a0 a1 = some r) :
    Calls Tryd.prog 32 #[.int .i64 a0, .int .i64 a1] w fun e w' => e = .returned (.int .i64 r) ∧ Drawn0 w w' := by
  have H : (spec_l06And.l0 k a0 a1 0 1) = some r := h
  clear h
  have H' := Aside0.mk H
  clear H
  go_enter Tryd.func32, Tryd.ntmps32
  go_wp2
  go_loopg [5, 6] k (fun kq v5 v6 w' => ∃ (x5_1 : Int) (x6_1 : Int), v5 = .int .i64 x5_1 ∧ v6 = .int .i64 x6_1 ∧ Aside0 (spec_l06And.l0 kq a0 a1 x5_1 x6_1 = some r) ∧ Aside0 (kq ≤ k) ∧ Drawn0 w w')
  case atStart => exact ⟨(0), (1), (by first | rfl | (simp; done) | (simp [*]; done)), (by first | rfl | (simp; done) | (simp [*]; done)), H', ⟨Nat.le_refl _⟩, by repeat (first | exact Drawn0.refl _ | apply Drawn0.step)⟩
  case round =>
    clear H'
    try clear p2
    obtain ⟨x5_1, x6_1, rfl, rfl, HA, HK1, ⟨m1, rfl⟩⟩ := hrel
    cases gk with
    | zero => exact absurd HA.out (by simp [spec_l06And.l0])
    | succ k1 =>
      have H := HA.out
      clear HA
      simp only [spec_l06And.l0] at H
      by_cases c3 : x6_1 ≤ 16
      · rw [if_pos c3] at H
        have c3b0 : decide (x6_1 ≤ 16) = true := decide_eq_true c3
        clear c3
        by_cases c4 : x6_1 = 0
        · rw [if_pos c4] at H
          exact absurd H (by simp)
        · rw [if_neg c4] at H
          have c4b0 : (x6_1 == 0) = false := beq_eq_false_iff_ne.mpr c4
          have c4b1 : (x6_1 != 0) = true := bne_iff_ne.mpr c4
          by_cases c5 : (Int.tmod (wrap64 (Int.tdiv a0 x6_1)) 2) = 1
          · rw [if_pos c5] at H
            have c5b0 : ((Int.tmod (wrap64 (Int.tdiv a0 x6_1)) 2) == 1) = true := beq_iff_eq.mpr c5
            have c5b1 : ((Int.tmod (wrap64 (Int.tdiv a0 x6_1)) 2) != 1) = false := bne_eq_false_iff_eq.mpr c5
            clear c5
            by_cases c6 : (Int.tmod (wrap64 (Int.tdiv a1 x6_1)) 2) = 1
            · rw [if_pos c6] at H
              have c6b0 : ((Int.tmod (wrap64 (Int.tdiv a1 x6_1)) 2) == 1) = true := beq_iff_eq.mpr c6
              have c6b1 : ((Int.tmod (wrap64 (Int.tdiv a1 x6_1)) 2) != 1) = false := bne_eq_false_iff_eq.mpr c6
              clear c6
              have H' := Aside0.mk H
              clear H
              go_wp2
              go_roundg k1
              case measure => have := HK1.out; omega
              case rel => exact ⟨(wrap64 (x5_1 + x6_1)), (wrap64 (2 * x6_1)), (by first | rfl | (simp; done) | (simp [*]; done)), (by first | rfl | (simp; done) | (simp [*]; done)), H', ⟨by have := HK1.out; omega⟩, by repeat (first | exact Drawn0.refl _ | apply Drawn0.step)⟩
            · rw [if_neg c6] at H
              have c6b0 : ((Int.tmod (wrap64 (Int.tdiv a1 x6_1)) 2) == 1) = false := beq_eq_false_iff_ne.mpr c6
              have c6b1 : ((Int.tmod (wrap64 (Int.tdiv a1 x6_1)) 2) != 1) = true := bne_iff_ne.mpr c6
              have H' := Aside0.mk H
              clear H
              go_wp2
              go_roundg k1
              case measure => have := HK1.out; omega
              case rel => exact ⟨(x5_1), (wrap64 (2 * x6_1)), (by first | rfl | (simp; done) | (simp [*]; done)), (by first | rfl | (simp; done) | (simp [*]; done)), H', ⟨by have := HK1.out; omega⟩, by repeat (first | exact Drawn0.refl _ | apply Drawn0.step)⟩
          · rw [if_neg c5] at H
            have c5b0 : ((Int.tmod (wrap64 (Int.tdiv a0 x6_1)) 2) == 1) = false := beq_eq_false_iff_ne.mpr c5
            have c5b1 : ((Int.tmod (wrap64 (Int.tdiv a0 x6_1)) 2) != 1) = true := bne_iff_ne.mpr c5
            have H' := Aside0.mk H
            clear H
            go_wp2
            go_roundg k1
            case measure => have := HK1.out; omega
            case rel => exact ⟨(x5_1), (wrap64 (2 * x6_1)), (by first | rfl | (simp; done) | (simp [*]; done)), (by first | rfl | (simp; done) | (simp [*]; done)), H', ⟨by have := HK1.out; omega⟩, by repeat (first | exact Drawn0.refl _ | apply Drawn0.step)⟩
      · rw [if_neg c3] at H
        have c3b0 : decide (x6_1 ≤ 16) = false := decide_eq_false c3
        clear c3
        obtain rfl := Option.some.inj H
        go_wp2
        go_ret
        exact ⟨by first | rfl | (simp; done) | (simp [*]; done), by repeat (first | exact Drawn0.refl _ | apply Drawn0.step)⟩

/-! ### spec_FlagsAfter: function 13 -/
def spec_FlagsAfter.j0 : Nat → Int → Int → Int → Bool → Option (Int)
  | 0, _, _, _, _ => none
  | k + 1, x0, x1, x2, x14 => if x14 = true then (some x0) else (if x1 = 1 then (some x2) else (if x1 = 2 then ((spec_l06And.f k x0 x2).bind fun t258 => (some (wrap64 ((wrap64 (x0 + x2)) - t258)))) else (if x1 = 3 then ((spec_l06And.f k x0 x2).bind fun t259 => (some (wrap64 (x0 - t259)))) else (some x0))))
def spec_FlagsAfter.f (k : Nat) (a0 : Int) (a1 : Int) (a2 : Int) : Option (Int) := (spec_FlagsOk.f a0).bind fun t256 => (if t256 = true then ((spec_FlagsOk.f a2).bind fun t257 => (spec_FlagsAfter.j0 k a0 a1 a2 (!t257))) else (spec_FlagsAfter.j0 k a0 a1 a2 true))
theorem spec_FlagsAfter.mono_l : ∀ k, (∀ y0 y1 y2 y3, LeO (spec_FlagsAfter.j0 k y0 y1 y2 y3) (spec_FlagsAfter.j0 (k + 1) y0 y1 y2 y3))
  | 0 => fun _ _ _ _ r h => by simp [spec_FlagsAfter.j0] at h
  | k + 1 => by
    have ih0 := spec_FlagsAfter.mono_l k
    · intro y0 y1 y2 y3
      unfold spec_FlagsAfter.j0
      repeat' first
      | (with_reducible exact ih0 _ _ _ _)
      | (with_reducible exact spec_l06And.mono _ _ _)
      | (with_reducible exact LeO.refl _)
      | (with_reducible exact LeO.none _)
      | (with_reducible refine LeO.ite ?_ ?_)
      | (with_reducible refine LeO.bind ?_ (fun _ => ?_))
      | exact ih0 _ _ _ _
      | exact spec_l06And.mono _ _ _
      | exact LeO.none _
      | refine LeO.ite ?_ ?_
      | refine LeO.bind ?_ (fun _ => ?_)
theorem spec_FlagsAfter.mono : ∀ a0 a1 a2 k, LeO (spec_FlagsAfter.f k a0 a1 a2) (spec_FlagsAfter.f (k + 1) a0 a1 a2) := by
  intro a0 a1 a2 k
  have ih0 := spec_FlagsAfter.mono_l k
  unfold spec_FlagsAfter.f
  repeat' first
      | (with_reducible exact ih0 _ _ _ _)
      | (with_reducible exact spec_l06And.mono _ _ _)
      | (with_reducible exact LeO.refl _)
      | (with_reducible exact LeO.none _)
      | (with_reducible refine LeO.ite ?_ ?_)
      | (with_reducible refine LeO.bind ?_ (fun _ => ?_))
      | exact ih0 _ _ _ _
      | exact spec_l06And.mono _ _ _
      | exact LeO.none _
      | refine LeO.ite ?_ ?_
      | refine LeO.bind ?_ (fun _ => ?_)
set_option maxHeartbeats 8000000 in
set_option maxRecDepth 100000 in
theorem spec_FlagsAfter.calls (k : Nat) (a0 : Int) (a1 : Int) (a2 : Int) (r : Int) (w : World) (h : spec_FlagsAfter.f k a0 a1 a2 = some r) :
    Calls Tryd.prog 13 #[.int .i64 a0, .int .i64 a1, .int .i64 a2] w fun e w' => e = .returned (.int .i64 r) ∧ Drawn0 w w' := by
  have H : ((spec_FlagsOk.f a0).bind fun t256 => (if t256 = true then ((spec_FlagsOk.f a2).bind fun t257 => (spec_FlagsAfter.j0 k a0 a1 a2 (!t257))) else (spec_FlagsAfter.j0 k a0 a1 a2 true))) = some r := h
  clear h
  have HC4 := Aside0.mk H
  clear H
  go_enter Tryd.func13, Tryd.ntmps13
  go_upto_region 1 with (fail)
  go_cut [14] (fun v14 wc => ∃ (kq : Nat) (x14_3 : Bool), v14 = .bool x14_3 ∧ Aside0 (spec_FlagsAfter.j0 kq a0 a1 a2 x14_3 = some r) ∧ Aside0 (kq ≤ k) ∧ Drawn0 w wc)
  case first =>
    have H := HC4.out
    clear HC4
    replace H := Option.bind_eq_some_iff.mp H
    obtain ⟨t256, A50, H⟩ := H
    replace H : (if t256 = true then ((spec_FlagsOk.f a2).bind fun t257 => (spec_FlagsAfter.j0 k a0 a1 a2 (!t257))) else (spec_FlagsAfter.j0 k a0 a1 a2 true)) = some r := H
    have A5 := Aside0.mk A50
    clear A50
    by_cases c6 : t256 = true
    · subst c6
      have H1 : ((spec_FlagsOk.f a2).bind fun t257 => (spec_FlagsAfter.j0 k a0 a1 a2 (!t257))) = some r := by rw [if_pos rfl] at H; exact H
      clear H
      have H := H1
      clear H1
      replace H := Option.bind_eq_some_iff.mp H
      obtain ⟨t257, A70, H⟩ := H
      replace H : (spec_FlagsAfter.j0 k a0 a1 a2 (!t257)) = some r := H
      have A7 := Aside0.mk A70
      clear A70
      have H' := Aside0.mk H
      clear H
      go_wp2_with (first | ((with_reducible refine gate_callee (f := 31) rfl ?_); refine goesL_ (some 8) rfl rfl Tryd.func31 (by kernel_rfl) rfl #[.int .i64 a0] rfl (by (try simp only [List.map_toArray, List.map_cons, List.map_nil]); first | done | rfl | (simp only [List.length_drop, List.length_take]; rfl)) ?_; (with_reducible refine (spec_FlagsOk.calls a0 true _ A5.out).mono ?_); rintro e w' ⟨rfl, ⟨nd, rfl⟩⟩; refine ⟨_, rfl, ?_⟩) | (go_at_call 31; (with_reducible refine (spec_FlagsOk.calls a2 t257 _ A7.out).mono ?_); rintro e w' ⟨rfl, ⟨nd, rfl⟩⟩))
      go_meet
      case rel => exact ⟨_, (!t257), (by first | rfl | (simp; done) | (simp [*]; done)), H', ⟨by first | omega | exact Nat.le_refl _⟩, by repeat (first | exact Drawn0.refl _ | apply Drawn0.step)⟩
    · replace c6 := Bool.eq_false_iff.mpr c6
      subst c6
      have H1 : (spec_FlagsAfter.j0 k a0 a1 a2 true) = some r := by rw [if_neg (show ¬ (false = true) by decide)] at H; exact H
      clear H
      have H := H1
      clear H1
      have H' := Aside0.mk H
      clear H
      go_wp2_with (first | ((with_reducible refine gate_callee (f := 31) rfl ?_); refine goesL_ (some 8) rfl rfl Tryd.func31 (by kernel_rfl) rfl #[.int .i64 a0] rfl (by (try simp only [List.map_toArray, List.map_cons, List.map_nil]); first | done | rfl | (simp only [List.length_drop, List.length_take]; rfl)) ?_; (with_reducible refine (spec_FlagsOk.calls a0 false _ A5.out).mono ?_); rintro e w' ⟨rfl, ⟨nd, rfl⟩⟩; refine ⟨_, rfl, ?_⟩))
      go_meet
      case rel => exact ⟨_, (true), (by first | rfl | (simp; done) | (simp [*]; done)), H', ⟨by first | omega | exact Nat.le_refl _⟩, by repeat (first | exact Drawn0.refl _ | apply Drawn0.step)⟩
  case rest =>
    clear HC4
    try clear c1
    try clear p2
    try clear c3
    try clear c6
    obtain ⟨kq, x14_3, rfl, HA, HJ3, ⟨mc3, rfl⟩⟩ := hcut
    cases kq with
    | zero => exact absurd HA.out (by simp [spec_FlagsAfter.j0])
    | succ kj3 =>
      have H := HA.out
      clear HA
      simp only [spec_FlagsAfter.j0] at H
      by_cases c8 : x14_3 = true
      · subst c8
        have H1 : (some a0) = some r := by rw [if_pos rfl] at H; exact H
        clear H
        have H := H1
        clear H1
        obtain rfl := Option.some.inj H
        go_wp2
        go_ret
        exact ⟨by first | rfl | (simp; done) | (simp [*]; done), by repeat (first | exact Drawn0.refl _ | apply Drawn0.step)⟩
      · replace c8 := Bool.eq_false_iff.mpr c8
        subst c8
        have H1 : (if a1 = 1 then (some a2) else (if a1 = 2 then ((spec_l06And.f kj3 a0 a2).bind fun t258 => (some (wrap64 ((wrap64 (a0 + a2)) - t258)))) else (if a1 = 3 then ((spec_l06And.f kj3 a0 a2).bind fun t259 => (some (wrap64 (a0 - t259)))) else (some a0)))) = some r := by rw [if_neg (show ¬ (false = true) by decide)] at H; exact H
        clear H
        have H := H1
        clear H1
        by_cases c9 : a1 = 1
        · rw [if_pos c9] at H
          have c9b0 : (a1 == 1) = true := beq_iff_eq.mpr c9
          have c9b1 : (a1 != 1) = false := bne_eq_false_iff_eq.mpr c9
          clear c9
          obtain rfl := Option.some.inj H
          go_wp2
          go_ret
          exact ⟨by first | rfl | (simp; done) | (simp [*]; done), by repeat (first | exact Drawn0.refl _ | apply Drawn0.step)⟩
        · rw [if_neg c9] at H
          have c9b0 : (a1 == 1) = false := beq_eq_false_iff_ne.mpr c9
          have c9b1 : (a1 != 1) = true := bne_iff_ne.mpr c9
          by_cases c10 : a1 = 2
          · rw [if_pos c10] at H
            have c10b0 : (a1 == 2) = true := beq_iff_eq.mpr c10
            have c10b1 : (a1 != 2) = false := bne_eq_false_iff_eq.mpr c10
            clear c10
            replace H := Option.bind_eq_some_iff.mp H
            obtain ⟨t258, A110, H⟩ := H
            replace H : (some (wrap64 ((wrap64 (a0 + a2)) - t258))) = some r := H
            have A11 := Aside0.mk A110
            clear A110
            obtain rfl := Option.some.inj H
            go_wp2_with (first | ((with_reducible refine gate_callee (f := 32) rfl ?_); refine goesL_ (some 27) rfl rfl Tryd.func32 (by kernel_rfl) rfl #[.int .i64 a0, .int .i64 a2] rfl (by (try simp only [List.map_toArray, List.map_cons, List.map_nil]); first | done | rfl | (simp only [List.length_drop, List.length_take]; rfl)) ?_; (with_reducible refine (spec_l06And.calls kj3 a0 a2 t258 _ A11.out).mono ?_); rintro e w' ⟨rfl, ⟨nd, rfl⟩⟩; refine ⟨_, rfl, ?_⟩))
            go_ret
            exact ⟨by first | rfl | (simp; done) | (simp [*]; done), by repeat (first | exact Drawn0.refl _ | apply Drawn0.step)⟩
          · rw [if_neg c10] at H
            have c10b0 : (a1 == 2) = false := beq_eq_false_iff_ne.mpr c10
            have c10b1 : (a1 != 2) = true := bne_iff_ne.mpr c10
            by_cases c12 : a1 = 3
            · rw [if_pos c12] at H
              have c12b0 : (a1 == 3) = true := beq_iff_eq.mpr c12
              have c12b1 : (a1 != 3) = false := bne_eq_false_iff_eq.mpr c12
              clear c12
              replace H := Option.bind_eq_some_iff.mp H
              obtain ⟨t259, A130, H⟩ := H
              replace H : (some (wrap64 (a0 - t259))) = some r := H
              have A13 := Aside0.mk A130
              clear A130
              obtain rfl := Option.some.inj H
              go_wp2_with (first | ((with_reducible refine gate_callee (f := 32) rfl ?_); refine goesL_ (some 34) rfl rfl Tryd.func32 (by kernel_rfl) rfl #[.int .i64 a0, .int .i64 a2] rfl (by (try simp only [List.map_toArray, List.map_cons, List.map_nil]); first | done | rfl | (simp only [List.length_drop, List.length_take]; rfl)) ?_; (with_reducible refine (spec_l06And.calls kj3 a0 a2 t259 _ A13.out).mono ?_); rintro e w' ⟨rfl, ⟨nd, rfl⟩⟩; refine ⟨_, rfl, ?_⟩))
              go_ret
              exact ⟨by first | rfl | (simp; done) | (simp [*]; done), by repeat (first | exact Drawn0.refl _ | apply Drawn0.step)⟩
            · rw [if_neg c12] at H
              have c12b0 : (a1 == 3) = false := beq_eq_false_iff_ne.mpr c12
              have c12b1 : (a1 != 3) = true := bne_iff_ne.mpr c12
              obtain rfl := Option.some.inj H
              go_wp2
              go_ret
              exact ⟨by first | rfl | (simp; done) | (simp [*]; done), by repeat (first | exact Drawn0.refl _ | apply Drawn0.step)⟩

/-! ### laws_FnFlags: function 4 -/
def laws_FnFlags.f (k : Nat) (l0 : List Int) : Option (Bool) := (laws_big.f l0).bind fun t260 => (if t260 = true then (some true) else ((spec_DrawPlaces.f k l0).bind fun t261 => (if 0 < (t261.length : Int) then (if 1 < (t261.length : Int) then ((impl_FlagsText.f k (Int.tmod (rd t261 0) 32)).bind fun t266 => ((impl_ReadFlags.f k t266).bind fun bt267 => ((impl_FlagsAfter.f k (Int.tmod (rd t261 0) 32) 2 (Int.tmod (rd t261 1) 32)).bind fun t269 => ((impl_FlagsAfter.f k t269 3 (Int.tmod (rd t261 1) 32)).bind fun t270 => ((impl_ReadFlags.f k (⟨#[40, 68, 101, 108, 101, 116, 101, 100, 32, 83, 69, 69, 78, 41]⟩ : ByteArray)).bind fun bt271 => ((spec_DrawFlagsAfter.f k l0).bind fun bt273 => ((spec_DrawReadFlags.f k l0).bind fun t276 => ((impl_ReadFlags.f k t276).bind fun bt277 => ((spec_ReadFlags.f k t276).bind fun bt279 => (if bt267.2 = true then (if bt267.1 = (Int.tmod (rd t261 0) 32) then ((impl_FlagsAfter.f k (Int.tmod (rd t261 0) 32) 1 (Int.tmod (rd t261 1) 32)).bind fun t281 => (if t281 = (Int.tmod (rd t261 1) 32) then ((impl_FlagsAfter.f k t270 2 (Int.tmod (rd t261 1) 32)).bind fun t282 => (if t282 = t269 then ((impl_FlagsAfter.f k t270 3 (Int.tmod (rd t261 1) 32)).bind fun t283 => (if t283 = t270 then ((impl_FlagsAfter.f k t270 2 (Int.tmod (rd t261 0) 32)).bind fun t284 => ((spec_FlagsAfter.f k t270 2 (Int.tmod (rd t261 0) 32)).bind fun t285 => (if t284 = t285 then (if bt271.2 = true then (if bt271.1 = 9 then ((impl_FlagsAfter.f k bt273.1 bt273.2.1 bt273.2.2).bind fun t286 => ((spec_FlagsAfter.f k bt273.1 bt273.2.1 bt273.2.2).bind fun t287 => (if t286 = t287 then (if (bt277.2 == bt279.2) = true then (if bt277.1 = bt279.1 then ((impl_FlagsOk.f (Int.tmod (rd t261 0) 32)).bind fun t288 => (some t288)) else (some false)) else (some false)) else (some false)))) else (some false)) else (some false)) else (some false)))) else (some false))) else (some false))) else (some false))) else (some false)) else (some false))))))))))) else (none)) else (none))))
theorem laws_FnFlags.mono : ∀ a0 k, LeO (laws_FnFlags.f k a0) (laws_FnFlags.f (k + 1) a0) := by
  intro a0 k
  unfold laws_FnFlags.f
  repeat' first
      | (with_reducible exact impl_FlagsAfter.mono _ _ _ _)
      | (with_reducible exact impl_FlagsText.mono _ _)
      | (with_reducible exact impl_ReadFlags.mono _ _)
      | (with_reducible exact spec_DrawFlagsAfter.mono _ _)
      | (with_reducible exact spec_DrawPlaces.mono _ _)
      | (with_reducible exact spec_DrawReadFlags.mono _ _)
      | (with_reducible exact spec_FlagsAfter.mono _ _ _ _)
      | (with_reducible exact spec_ReadFlags.mono _ _)
      | (with_reducible exact LeO.refl _)
      | (with_reducible exact LeO.none _)
      | (with_reducible refine LeO.ite ?_ ?_)
      | (with_reducible refine LeO.bind ?_ (fun _ => ?_))
      | exact impl_FlagsAfter.mono _ _ _ _
      | exact impl_FlagsText.mono _ _
      | exact impl_ReadFlags.mono _ _
      | exact spec_DrawFlagsAfter.mono _ _
      | exact spec_DrawPlaces.mono _ _
      | exact spec_DrawReadFlags.mono _ _
      | exact spec_FlagsAfter.mono _ _ _ _
      | exact spec_ReadFlags.mono _ _
      | exact LeO.none _
      | refine LeO.ite ?_ ?_
      | refine LeO.bind ?_ (fun _ => ?_)
set_option maxHeartbeats 8000000 in
set_option maxRecDepth 100000 in
theorem laws_FnFlags.calls (k : Nat) (A0 : Option Addr) (c0 : Nat) (l0 : List Int) (r : Bool) (w : World) (hr0 : Kd.C (Kd.int .u8) w A0 l0.length l0) (hc0 : l0.length ≤ c0) (hr_ : r = true) (hgl : GlobOk w) (h : laws_FnFlags.f k l0 = some r) :
    Calls Tryd.prog 4 #[.slice A0 l0.length c0] w fun e w' => e = .returned (.bool r) ∧ Below w.heap.size w w' := by
  have HR0 := Aside0.mk hr0
  have HC0 := Aside0.mk hc0
  clear hr0 hc0
  have HB := Aside0.mk (Below.refl w.heap.size w)
  have HGL := Aside0.mk hgl
  clear hgl
  have HR_ := Aside0.mk hr_
  clear hr_
  have H : ((laws_big.f l0).bind fun t260 => (if t260 = true then (some true) else ((spec_DrawPlaces.f k l0).bind fun t261 => (if 0 < (t261.length : Int) then (if 1 < (t261.length : Int) then ((impl_FlagsText.f k (Int.tmod (rd t261 0) 32)).bind fun t266 => ((impl_ReadFlags.f k t266).bind fun bt267 => ((impl_FlagsAfter.f k (Int.tmod (rd t261 0) 32) 2 (Int.tmod (rd t261 1) 32)).bind fun t269 => ((impl_FlagsAfter.f k t269 3 (Int.tmod (rd t261 1) 32)).bind fun t270 => ((impl_ReadFlags.f k (⟨#[40, 68, 101, 108, 101, 116, 101, 100, 32, 83, 69, 69, 78, 41]⟩ : ByteArray)).bind fun bt271 => ((spec_DrawFlagsAfter.f k l0).bind fun bt273 => ((spec_DrawReadFlags.f k l0).bind fun t276 => ((impl_ReadFlags.f k t276).bind fun bt277 => ((spec_ReadFlags.f k t276).bind fun bt279 => (if bt267.2 = true then (if bt267.1 = (Int.tmod (rd t261 0) 32) then ((impl_FlagsAfter.f k (Int.tmod (rd t261 0) 32) 1 (Int.tmod (rd t261 1) 32)).bind fun t281 => (if t281 = (Int.tmod (rd t261 1) 32) then ((impl_FlagsAfter.f k t270 2 (Int.tmod (rd t261 1) 32)).bind fun t282 => (if t282 = t269 then ((impl_FlagsAfter.f k t270 3 (Int.tmod (rd t261 1) 32)).bind fun t283 => (if t283 = t270 then ((impl_FlagsAfter.f k t270 2 (Int.tmod (rd t261 0) 32)).bind fun t284 => ((spec_FlagsAfter.f k t270 2 (Int.tmod (rd t261 0) 32)).bind fun t285 => (if t284 = t285 then (if bt271.2 = true then (if bt271.1 = 9 then ((impl_FlagsAfter.f k bt273.1 bt273.2.1 bt273.2.2).bind fun t286 => ((spec_FlagsAfter.f k bt273.1 bt273.2.1 bt273.2.2).bind fun t287 => (if t286 = t287 then (if (bt277.2 == bt279.2) = true then (if bt277.1 = bt279.1 then ((impl_FlagsOk.f (Int.tmod (rd t261 0) 32)).bind fun t288 => (some t288)) else (some false)) else (some false)) else (some false)))) else (some false)) else (some false)) else (some false)))) else (some false))) else (some false))) else (some false))) else (some false)) else (some false))))))))))) else (none)) else (none))))) = some r := h
  clear h
  replace H := Option.bind_eq_some_iff.mp H
  obtain ⟨t260, A20, H⟩ := H
  replace H : (if t260 = true then (some true) else ((spec_DrawPlaces.f k l0).bind fun t261 => (if 0 < (t261.length : Int) then (if 1 < (t261.length : Int) then ((impl_FlagsText.f k (Int.tmod (rd t261 0) 32)).bind fun t266 => ((impl_ReadFlags.f k t266).bind fun bt267 => ((impl_FlagsAfter.f k (Int.tmod (rd t261 0) 32) 2 (Int.tmod (rd t261 1) 32)).bind fun t269 => ((impl_FlagsAfter.f k t269 3 (Int.tmod (rd t261 1) 32)).bind fun t270 => ((impl_ReadFlags.f k (⟨#[40, 68, 101, 108, 101, 116, 101, 100, 32, 83, 69, 69, 78, 41]⟩ : ByteArray)).bind fun bt271 => ((spec_DrawFlagsAfter.f k l0).bind fun bt273 => ((spec_DrawReadFlags.f k l0).bind fun t276 => ((impl_ReadFlags.f k t276).bind fun bt277 => ((spec_ReadFlags.f k t276).bind fun bt279 => (if bt267.2 = true then (if bt267.1 = (Int.tmod (rd t261 0) 32) then ((impl_FlagsAfter.f k (Int.tmod (rd t261 0) 32) 1 (Int.tmod (rd t261 1) 32)).bind fun t281 => (if t281 = (Int.tmod (rd t261 1) 32) then ((impl_FlagsAfter.f k t270 2 (Int.tmod (rd t261 1) 32)).bind fun t282 => (if t282 = t269 then ((impl_FlagsAfter.f k t270 3 (Int.tmod (rd t261 1) 32)).bind fun t283 => (if t283 = t270 then ((impl_FlagsAfter.f k t270 2 (Int.tmod (rd t261 0) 32)).bind fun t284 => ((spec_FlagsAfter.f k t270 2 (Int.tmod (rd t261 0) 32)).bind fun t285 => (if t284 = t285 then (if bt271.2 = true then (if bt271.1 = 9 then ((impl_FlagsAfter.f k bt273.1 bt273.2.1 bt273.2.2).bind fun t286 => ((spec_FlagsAfter.f k bt273.1 bt273.2.1 bt273.2.2).bind fun t287 => (if t286 = t287 then (if (bt277.2 == bt279.2) = true then (if bt277.1 = bt279.1 then ((impl_FlagsOk.f (Int.tmod (rd t261 0) 32)).bind fun t288 => (some t288)) else (some false)) else (some false)) else (some false)))) else (some false)) else (some false)) else (some false)))) else (some false))) else (some false))) else (some false))) else (some false)) else (some false))))))))))) else (none)) else (none)))) = some r := H
  have A2 := Aside0.mk A20
  clear A20
  by_cases c3 : t260 = true
  · subst c3
    have H1 : (some true) = some r := by rw [if_pos rfl] at H; exact H
    clear H
    have H := H1
    clear H1
    obtain rfl := Option.some.inj H
    go_enter Tryd.func4, Tryd.ntmps4
    go_wp2_with (first | ((with_reducible refine gate_callee (f := 7) rfl ?_); refine goesL_ (some 21) rfl rfl Tryd.func7 (by kernel_rfl) rfl #[.slice A0 l0.length c0] rfl (by (try simp only [List.map_toArray, List.map_cons, List.map_nil]); first | done | rfl | (simp only [List.length_drop, List.length_take]; rfl)) ?_; (with_reducible refine (laws_big.calls _ _ l0 true _ ?side1 ?side2 A2.out).mono ?_); (case side1 => repeat (first | exact HR0.out | (with_reducible refine Kd.C_alloc ?_ _) | (with_reducible refine Kd.C_drewN ?_ _) | (with_reducible refine Kd.C_drew ?_))); (case side2 => exact HC0.out); rintro e w' ⟨rfl, ⟨nd, rfl⟩⟩; refine ⟨_, rfl, ?_⟩))
    go_ret
    exact ⟨by first | rfl | (simp [errW_none, errW_some] <;> rfl) | (simp [*, errW_none, errW_some] <;> rfl), by repeat (first | (with_reducible first | exact HB.out | apply below_alloc | apply pw_below_drewN | apply below_drew1) | exact HB.out)⟩
  · replace c3 := Bool.eq_false_iff.mpr c3
    subst c3
    have H1 : ((spec_DrawPlaces.f k l0).bind fun t261 => (if 0 < (t261.length : Int) then (if 1 < (t261.length : Int) then ((impl_FlagsText.f k (Int.tmod (rd t261 0) 32)).bind fun t266 => ((impl_ReadFlags.f k t266).bind fun bt267 => ((impl_FlagsAfter.f k (Int.tmod (rd t261 0) 32) 2 (Int.tmod (rd t261 1) 32)).bind fun t269 => ((impl_FlagsAfter.f k t269 3 (Int.tmod (rd t261 1) 32)).bind fun t270 => ((impl_ReadFlags.f k (⟨#[40, 68, 101, 108, 101, 116, 101, 100, 32, 83, 69, 69, 78, 41]⟩ : ByteArray)).bind fun bt271 => ((spec_DrawFlagsAfter.f k l0).bind fun bt273 => ((spec_DrawReadFlags.f k l0).bind fun t276 => ((impl_ReadFlags.f k t276).bind fun bt277 => ((spec_ReadFlags.f k t276).bind fun bt279 => (if bt267.2 = true then (if bt267.1 = (Int.tmod (rd t261 0) 32) then ((impl_FlagsAfter.f k (Int.tmod (rd t261 0) 32) 1 (Int.tmod (rd t261 1) 32)).bind fun t281 => (if t281 = (Int.tmod (rd t261 1) 32) then ((impl_FlagsAfter.f k t270 2 (Int.tmod (rd t261 1) 32)).bind fun t282 => (if t282 = t269 then ((impl_FlagsAfter.f k t270 3 (Int.tmod (rd t261 1) 32)).bind fun t283 => (if t283 = t270 then ((impl_FlagsAfter.f k t270 2 (Int.tmod (rd t261 0) 32)).bind fun t284 => ((spec_FlagsAfter.f k t270 2 (Int.tmod (rd t261 0) 32)).bind fun t285 => (if t284 = t285 then (if bt271.2 = true then (if bt271.1 = 9 then ((impl_FlagsAfter.f k bt273.1 bt273.2.1 bt273.2.2).bind fun t286 => ((spec_FlagsAfter.f k bt273.1 bt273.2.1 bt273.2.2).bind fun t287 => (if t286 = t287 then (if (bt277.2 == bt279.2) = true then (if bt277.1 = bt279.1 then ((impl_FlagsOk.f (Int.tmod (rd t261 0) 32)).bind fun t288 => (some t288)) else (some false)) else (some false)) else (some false)))) else (some false)) else (some false)) else (some false)))) else (some false))) else (some false))) else (some false))) else (some false)) else (some false))))))))))) else (none)) else (none))) = some r := by rw [if_neg (show ¬ (false = true) by decide)] at H; exact H
    clear H
    have H := H1
    clear H1
    replace H := Option.bind_eq_some_iff.mp H
    obtain ⟨t261, A40, H⟩ := H
    replace H : (if 0 < (t261.length : Int) then (if 1 < (t261.length : Int) then ((impl_FlagsText.f k (Int.tmod (rd t261 0) 32)).bind fun t266 => ((impl_ReadFlags.f k t266).bind fun bt267 => ((impl_FlagsAfter.f k (Int.tmod (rd t261 0) 32) 2 (Int.tmod (rd t261 1) 32)).bind fun t269 => ((impl_FlagsAfter.f k t269 3 (Int.tmod (rd t261 1) 32)).bind fun t270 => ((impl_ReadFlags.f k (⟨#[40, 68, 101, 108, 101, 116, 101, 100, 32, 83, 69, 69, 78, 41]⟩ : ByteArray)).bind fun bt271 => ((spec_DrawFlagsAfter.f k l0).bind fun bt273 => ((spec_DrawReadFlags.f k l0).bind fun t276 => ((impl_ReadFlags.f k t276).bind fun bt277 => ((spec_ReadFlags.f k t276).bind fun bt279 => (if bt267.2 = true then (if bt267.1 = (Int.tmod (rd t261 0) 32) then ((impl_FlagsAfter.f k (Int.tmod (rd t261 0) 32) 1 (Int.tmod (rd t261 1) 32)).bind fun t281 => (if t281 = (Int.tmod (rd t261 1) 32) then ((impl_FlagsAfter.f k t270 2 (Int.tmod (rd t261 1) 32)).bind fun t282 => (if t282 = t269 then ((impl_FlagsAfter.f k t270 3 (Int.tmod (rd t261 1) 32)).bind fun t283 => (if t283 = t270 then ((impl_FlagsAfter.f k t270 2 (Int.tmod (rd t261 0) 32)).bind fun t284 => ((spec_FlagsAfter.f k t270 2 (Int.tmod (rd t261 0) 32)).bind fun t285 => (if t284 = t285 then (if bt271.2 = true then (if bt271.1 = 9 then ((impl_FlagsAfter.f k bt273.1 bt273.2.1 bt273.2.2).bind fun t286 => ((spec_FlagsAfter.f k bt273.1 bt273.2.1 bt273.2.2).bind fun t287 => (if t286 = t287 then (if (bt277.2 == bt279.2) = true then (if bt277.1 = bt279.1 then ((impl_FlagsOk.f (Int.tmod (rd t261 0) 32)).bind fun t288 => (some t288)) else (some false)) else (some false)) else (some false)))) else (some false)) else (some false)) else (some false)))) else (some false))) else (some false))) else (some false))) else (some false)) else (some false))))))))))) else (none)) else (none)) = some r := H
    have A4 := Aside0.mk A40
    clear A40
    by_cases c5 : 0 < (t261.length : Int)
    · rw [if_pos c5] at H
      have c5b0 : decide (0 < (t261.length : Int)) = true := decide_eq_true c5
      have c5b1 : decide (0 < t261.length) = true := decide_eq_true (by omega)
      clear c5
      by_cases c6 : 1 < (t261.length : Int)
      · rw [if_pos c6] at H
        have c6b0 : decide (1 < (t261.length : Int)) = true := decide_eq_true c6
        have c6b1 : decide (1 < t261.length) = true := decide_eq_true (by omega)
        clear c6
        replace H := Option.bind_eq_some_iff.mp H
        obtain ⟨t266, A70, H⟩ := H
        replace H : ((impl_ReadFlags.f k t266).bind fun bt267 => ((impl_FlagsAfter.f k (Int.tmod (rd t261 0) 32) 2 (Int.tmod (rd t261 1) 32)).bind fun t269 => ((impl_FlagsAfter.f k t269 3 (Int.tmod (rd t261 1) 32)).bind fun t270 => ((impl_ReadFlags.f k (⟨#[40, 68, 101, 108, 101, 116, 101, 100, 32, 83, 69, 69, 78, 41]⟩ : ByteArray)).bind fun bt271 => ((spec_DrawFlagsAfter.f k l0).bind fun bt273 => ((spec_DrawReadFlags.f k l0).bind fun t276 => ((impl_ReadFlags.f k t276).bind fun bt277 => ((spec_ReadFlags.f k t276).bind fun bt279 => (if bt267.2 = true then (if bt267.1 = (Int.tmod (rd t261 0) 32) then ((impl_FlagsAfter.f k (Int.tmod (rd t261 0) 32) 1 (Int.tmod (rd t261 1) 32)).bind fun t281 => (if t281 = (Int.tmod (rd t261 1) 32) then ((impl_FlagsAfter.f k t270 2 (Int.tmod (rd t261 1) 32)).bind fun t282 => (if t282 = t269 then ((impl_FlagsAfter.f k t270 3 (Int.tmod (rd t261 1) 32)).bind fun t283 => (if t283 = t270 then ((impl_FlagsAfter.f k t270 2 (Int.tmod (rd t261 0) 32)).bind fun t284 => ((spec_FlagsAfter.f k t270 2 (Int.tmod (rd t261 0) 32)).bind fun t285 => (if t284 = t285 then (if bt271.2 = true then (if bt271.1 = 9 then ((impl_FlagsAfter.f k bt273.1 bt273.2.1 bt273.2.2).bind fun t286 => ((spec_FlagsAfter.f k bt273.1 bt273.2.1 bt273.2.2).bind fun t287 => (if t286 = t287 then (if (bt277.2 == bt279.2) = true then (if bt277.1 = bt279.1 then ((impl_FlagsOk.f (Int.tmod (rd t261 0) 32)).bind fun t288 => (some t288)) else (some false)) else (some false)) else (some false)))) else (some false)) else (some false)) else (some false)))) else (some false))) else (some false))) else (some false))) else (some false)) else (some false)))))))))) = some r := H
        have A7 := Aside0.mk A70
        clear A70
        replace H := Option.bind_eq_some_iff.mp H
        obtain ⟨⟨t267, t268⟩, A80, H⟩ := H
        replace H : ((impl_FlagsAfter.f k (Int.tmod (rd t261 0) 32) 2 (Int.tmod (rd t261 1) 32)).bind fun t269 => ((impl_FlagsAfter.f k t269 3 (Int.tmod (rd t261 1) 32)).bind fun t270 => ((impl_ReadFlags.f k (⟨#[40, 68, 101, 108, 101, 116, 101, 100, 32, 83, 69, 69, 78, 41]⟩ : ByteArray)).bind fun bt271 => ((spec_DrawFlagsAfter.f k l0).bind fun bt273 => ((spec_DrawReadFlags.f k l0).bind fun t276 => ((impl_ReadFlags.f k t276).bind fun bt277 => ((spec_ReadFlags.f k t276).bind fun bt279 => (if t268 = true then (if t267 = (Int.tmod (rd t261 0) 32) then ((impl_FlagsAfter.f k (Int.tmod (rd t261 0) 32) 1 (Int.tmod (rd t261 1) 32)).bind fun t281 => (if t281 = (Int.tmod (rd t261 1) 32) then ((impl_FlagsAfter.f k t270 2 (Int.tmod (rd t261 1) 32)).bind fun t282 => (if t282 = t269 then ((impl_FlagsAfter.f k t270 3 (Int.tmod (rd t261 1) 32)).bind fun t283 => (if t283 = t270 then ((impl_FlagsAfter.f k t270 2 (Int.tmod (rd t261 0) 32)).bind fun t284 => ((spec_FlagsAfter.f k t270 2 (Int.tmod (rd t261 0) 32)).bind fun t285 => (if t284 = t285 then (if bt271.2 = true then (if bt271.1 = 9 then ((impl_FlagsAfter.f k bt273.1 bt273.2.1 bt273.2.2).bind fun t286 => ((spec_FlagsAfter.f k bt273.1 bt273.2.1 bt273.2.2).bind fun t287 => (if t286 = t287 then (if (bt277.2 == bt279.2) = true then (if bt277.1 = bt279.1 then ((impl_FlagsOk.f (Int.tmod (rd t261 0) 32)).bind fun t288 => (some t288)) else (some false)) else (some false)) else (some false)))) else (some false)) else (some false)) else (some false)))) else (some false))) else (some false))) else (some false))) else (some false)) else (some false))))))))) = some r := H
        have A8 := Aside0.mk A80
        clear A80
        replace H := Option.bind_eq_some_iff.mp H
        obtain ⟨t269, A90, H⟩ := H
        replace H : ((impl_FlagsAfter.f k t269 3 (Int.tmod (rd t261 1) 32)).bind fun t270 => ((impl_ReadFlags.f k (⟨#[40, 68, 101, 108, 101, 116, 101, 100, 32, 83, 69, 69, 78, 41]⟩ : ByteArray)).bind fun bt271 => ((spec_DrawFlagsAfter.f k l0).bind fun bt273 => ((spec_DrawReadFlags.f k l0).bind fun t276 => ((impl_ReadFlags.f k t276).bind fun bt277 => ((spec_ReadFlags.f k t276).bind fun bt279 => (if t268 = true then (if t267 = (Int.tmod (rd t261 0) 32) then ((impl_FlagsAfter.f k (Int.tmod (rd t261 0) 32) 1 (Int.tmod (rd t261 1) 32)).bind fun t281 => (if t281 = (Int.tmod (rd t261 1) 32) then ((impl_FlagsAfter.f k t270 2 (Int.tmod (rd t261 1) 32)).bind fun t282 => (if t282 = t269 then ((impl_FlagsAfter.f k t270 3 (Int.tmod (rd t261 1) 32)).bind fun t283 => (if t283 = t270 then ((impl_FlagsAfter.f k t270 2 (Int.tmod (rd t261 0) 32)).bind fun t284 => ((spec_FlagsAfter.f k t270 2 (Int.tmod (rd t261 0) 32)).bind fun t285 => (if t284 = t285 then (if bt271.2 = true then (if bt271.1 = 9 then ((impl_FlagsAfter.f k bt273.1 bt273.2.1 bt273.2.2).bind fun t286 => ((spec_FlagsAfter.f k bt273.1 bt273.2.1 bt273.2.2).bind fun t287 => (if t286 = t287 then (if (bt277.2 == bt279.2) = true then (if bt277.1 = bt279.1 then ((impl_FlagsOk.f (Int.tmod (rd t261 0) 32)).bind fun t288 => (some t288)) else (some false)) else (some false)) else (some false)))) else (some false)) else (some false)) else (some false)))) else (some false))) else (some false))) else (some false))) else (some false)) else (some false)))))))) = some r := H
        have A9 := Aside0.mk A90
        clear A90
        replace H := Option.bind_eq_some_iff.mp H
        obtain ⟨t270, A100, H⟩ := H
        replace H : ((impl_ReadFlags.f k (⟨#[40, 68, 101, 108, 101, 116, 101, 100, 32, 83, 69, 69, 78, 41]⟩ : ByteArray)).bind fun bt271 => ((spec_DrawFlagsAfter.f k l0).bind fun bt273 => ((spec_DrawReadFlags.f k l0).bind fun t276 => ((impl_ReadFlags.f k t276).bind fun bt277 => ((spec_ReadFlags.f k t276).bind fun bt279 => (if t268 = true then (if t267 = (Int.tmod (rd t261 0) 32) then ((impl_FlagsAfter.f k (Int.tmod (rd t261 0) 32) 1 (Int.tmod (rd t261 1) 32)).bind fun t281 => (if t281 = (Int.tmod (rd t261 1) 32) then ((impl_FlagsAfter.f k t270 2 (Int.tmod (rd t261 1) 32)).bind fun t282 => (if t282 = t269 then ((impl_FlagsAfter.f k t270 3 (Int.tmod (rd t261 1) 32)).bind fun t283 => (if t283 = t270 then ((impl_FlagsAfter.f k t270 2 (Int.tmod (rd t261 0) 32)).bind fun t284 => ((spec_FlagsAfter.f k t270 2 (Int.tmod (rd t261 0) 32)).bind fun t285 => (if t284 = t285 then (if bt271.2 = true then (if bt271.1 = 9 then ((impl_FlagsAfter.f k bt273.1 bt273.2.1 bt273.2.2).bind fun t286 => ((spec_FlagsAfter.f k bt273.1 bt273.2.1 bt273.2.2).bind fun t287 => (if t286 = t287 then (if (bt277.2 == bt279.2) = true then (if bt277.1 = bt279.1 then ((impl_FlagsOk.f (Int.tmod (rd t261 0) 32)).bind fun t288 => (some t288)) else (some false)) else (some false)) else (some false)))) else (some false)) else (some false)) else (some false)))) else (some false))) else (some false))) else (some false))) else (some false)) else (some false))))))) = some r := H
        have A10 := Aside0.mk A100
        clear A100
        replace H := Option.bind_eq_some_iff.mp H
        obtain ⟨⟨t271, t272⟩, A110, H⟩ := H
        replace H : ((spec_DrawFlagsAfter.f k l0).bind fun bt273 => ((spec_DrawReadFlags.f k l0).bind fun t276 => ((impl_ReadFlags.f k t276).bind fun bt277 => ((spec_ReadFlags.f k t276).bind fun bt279 => (if t268 = true then (if t267 = (Int.tmod (rd t261 0) 32) then ((impl_FlagsAfter.f k (Int.tmod (rd t261 0) 32) 1 (Int.tmod (rd t261 1) 32)).bind fun t281 => (if t281 = (Int.tmod (rd t261 1) 32) then ((impl_FlagsAfter.f k t270 2 (Int.tmod (rd t261 1) 32)).bind fun t282 => (if t282 = t269 then ((impl_FlagsAfter.f k t270 3 (Int.tmod (rd t261 1) 32)).bind fun t283 => (if t283 = t270 then ((impl_FlagsAfter.f k t270 2 (Int.tmod (rd t261 0) 32)).bind fun t284 => ((spec_FlagsAfter.f k t270 2 (Int.tmod (rd t261 0) 32)).bind fun t285 => (if t284 = t285 then (if t272 = true then (if t271 = 9 then ((impl_FlagsAfter.f k bt273.1 bt273.2.1 bt273.2.2).bind fun t286 => ((spec_FlagsAfter.f k bt273.1 bt273.2.1 bt273.2.2).bind fun t287 => (if t286 = t287 then (if (bt277.2 == bt279.2) = true then (if bt277.1 = bt279.1 then ((impl_FlagsOk.f (Int.tmod (rd t261 0) 32)).bind fun t288 => (some t288)) else (some false)) else (some false)) else (some false)))) else (some false)) else (some false)) else (some false)))) else (some false))) else (some false))) else (some false))) else (some false)) else (some false)))))) = some r := H
        have A11 := Aside0.mk A110
        clear A110
        replace H := Option.bind_eq_some_iff.mp H
        obtain ⟨⟨t273, t274, t275⟩, A120, H⟩ := H
        replace H : ((spec_DrawReadFlags.f k l0).bind fun t276 => ((impl_ReadFlags.f k t276).bind fun bt277 => ((spec_ReadFlags.f k t276).bind fun bt279 => (if t268 = true then (if t267 = (Int.tmod (rd t261 0) 32) then ((impl_FlagsAfter.f k (Int.tmod (rd t261 0) 32) 1 (Int.tmod (rd t261 1) 32)).bind fun t281 => (if t281 = (Int.tmod (rd t261 1) 32) then ((impl_FlagsAfter.f k t270 2 (Int.tmod (rd t261 1) 32)).bind fun t282 => (if t282 = t269 then ((impl_FlagsAfter.f k t270 3 (Int.tmod (rd t261 1) 32)).bind fun t283 => (if t283 = t270 then ((impl_FlagsAfter.f k t270 2 (Int.tmod (rd t261 0) 32)).bind fun t284 => ((spec_FlagsAfter.f k t270 2 (Int.tmod (rd t261 0) 32)).bind fun t285 => (if t284 = t285 then (if t272 = true then (if t271 = 9 then ((impl_FlagsAfter.f k t273 t274 t275).bind fun t286 => ((spec_FlagsAfter.f k t273 t274 t275).bind fun t287 => (if t286 = t287 then (if (bt277.2 == bt279.2) = true then (if bt277.1 = bt279.1 then ((impl_FlagsOk.f (Int.tmod (rd t261 0) 32)).bind fun t288 => (some t288)) else (some false)) else (some false)) else (some false)))) else (some false)) else (some false)) else (some false)))) else (some false))) else (some false))) else (some false))) else (some false)) else (some false))))) = some r := H
        have A12 := Aside0.mk A120
        clear A120
        replace H := Option.bind_eq_some_iff.mp H
        obtain ⟨t276, A130, H⟩ := H
        replace H : ((impl_ReadFlags.f k t276).bind fun bt277 => ((spec_ReadFlags.f k t276).bind fun bt279 => (if t268 = true then (if t267 = (Int.tmod (rd t261 0) 32) then ((impl_FlagsAfter.f k (Int.tmod (rd t261 0) 32) 1 (Int.tmod (rd t261 1) 32)).bind fun t281 => (if t281 = (Int.tmod (rd t261 1) 32) then ((impl_FlagsAfter.f k t270 2 (Int.tmod (rd t261 1) 32)).bind fun t282 => (if t282 = t269 then ((impl_FlagsAfter.f k t270 3 (Int.tmod (rd t261 1) 32)).bind fun t283 => (if t283 = t270 then ((impl_FlagsAfter.f k t270 2 (Int.tmod (rd t261 0) 32)).bind fun t284 => ((spec_FlagsAfter.f k t270 2 (Int.tmod (rd t261 0) 32)).bind fun t285 => (if t284 = t285 then (if t272 = true then (if t271 = 9 then ((impl_FlagsAfter.f k t273 t274 t275).bind fun t286 => ((spec_FlagsAfter.f k t273 t274 t275).bind fun t287 => (if t286 = t287 then (if (bt277.2 == bt279.2) = true then (if bt277.1 = bt279.1 then ((impl_FlagsOk.f (Int.tmod (rd t261 0) 32)).bind fun t288 => (some t288)) else (some false)) else (some false)) else (some false)))) else (some false)) else (some false)) else (some false)))) else (some false))) else (some false))) else (some false))) else (some false)) else (some false)))) = some r := H
        have A13 := Aside0.mk A130
        clear A130
        replace H := Option.bind_eq_some_iff.mp H
        obtain ⟨⟨t277, t278⟩, A140, H⟩ := H
        replace H : ((spec_ReadFlags.f k t276).bind fun bt279 => (if t268 = true then (if t267 = (Int.tmod (rd t261 0) 32) then ((impl_FlagsAfter.f k (Int.tmod (rd t261 0) 32) 1 (Int.tmod (rd t261 1) 32)).bind fun t281 => (if t281 = (Int.tmod (rd t261 1) 32) then ((impl_FlagsAfter.f k t270 2 (Int.tmod (rd t261 1) 32)).bind fun t282 => (if t282 = t269 then ((impl_FlagsAfter.f k t270 3 (Int.tmod (rd t261 1) 32)).bind fun t283 => (if t283 = t270 then ((impl_FlagsAfter.f k t270 2 (Int.tmod (rd t261 0) 32)).bind fun t284 => ((spec_FlagsAfter.f k t270 2 (Int.tmod (rd t261 0) 32)).bind fun t285 => (if t284 = t285 then (if t272 = true then (if t271 = 9 then ((impl_FlagsAfter.f k t273 t274 t275).bind fun t286 => ((spec_FlagsAfter.f k t273 t274 t275).bind fun t287 => (if t286 = t287 then (if (t278 == bt279.2) = true then (if t277 = bt279.1 then ((impl_FlagsOk.f (Int.tmod (rd t261 0) 32)).bind fun t288 => (some t288)) else (some false)) else (some false)) else (some false)))) else (some false)) else (some false)) else (some false)))) else (some false))) else (some false))) else (some false))) else (some false)) else (some false))) = some r := H
        have A14 := Aside0.mk A140
        clear A140
        replace H := Option.bind_eq_some_iff.mp H
        obtain ⟨⟨t279, t280⟩, A150, H⟩ := H
        replace H : (if t268 = true then (if t267 = (Int.tmod (rd t261 0) 32) then ((impl_FlagsAfter.f k (Int.tmod (rd t261 0) 32) 1 (Int.tmod (rd t261 1) 32)).bind fun t281 => (if t281 = (Int.tmod (rd t261 1) 32) then ((impl_FlagsAfter.f k t270 2 (Int.tmod (rd t261 1) 32)).bind fun t282 => (if t282 = t269 then ((impl_FlagsAfter.f k t270 3 (Int.tmod (rd t261 1) 32)).bind fun t283 => (if t283 = t270 then ((impl_FlagsAfter.f k t270 2 (Int.tmod (rd t261 0) 32)).bind fun t284 => ((spec_FlagsAfter.f k t270 2 (Int.tmod (rd t261 0) 32)).bind fun t285 => (if t284 = t285 then (if t272 = true then (if t271 = 9 then ((impl_FlagsAfter.f k t273 t274 t275).bind fun t286 => ((spec_FlagsAfter.f k t273 t274 t275).bind fun t287 => (if t286 = t287 then (if (t278 == t280) = true then (if t277 = t279 then ((impl_FlagsOk.f (Int.tmod (rd t261 0) 32)).bind fun t288 => (some t288)) else (some false)) else (some false)) else (some false)))) else (some false)) else (some false)) else (some false)))) else (some false))) else (some false))) else (some false))) else (some false)) else (some false)) = some r := H
        have A15 := Aside0.mk A150
        clear A150
        by_cases c16 : t268 = true
        · subst c16
          have H1 : (if t267 = (Int.tmod (rd t261 0) 32) then ((impl_FlagsAfter.f k (Int.tmod (rd t261 0) 32) 1 (Int.tmod (rd t261 1) 32)).bind fun t281 => (if t281 = (Int.tmod (rd t261 1) 32) then ((impl_FlagsAfter.f k t270 2 (Int.tmod (rd t261 1) 32)).bind fun t282 => (if t282 = t269 then ((impl_FlagsAfter.f k t270 3 (Int.tmod (rd t261 1) 32)).bind fun t283 => (if t283 = t270 then ((impl_FlagsAfter.f k t270 2 (Int.tmod (rd t261 0) 32)).bind fun t284 => ((spec_FlagsAfter.f k t270 2 (Int.tmod (rd t261 0) 32)).bind fun t285 => (if t284 = t285 then (if t272 = true then (if t271 = 9 then ((impl_FlagsAfter.f k t273 t274 t275).bind fun t286 => ((spec_FlagsAfter.f k t273 t274 t275).bind fun t287 => (if t286 = t287 then (if (t278 == t280) = true then (if t277 = t279 then ((impl_FlagsOk.f (Int.tmod (rd t261 0) 32)).bind fun t288 => (some t288)) else (some false)) else (some false)) else (some false)))) else (some false)) else (some false)) else (some false)))) else (some false))) else (some false))) else (some false))) else (some false)) = some r := by rw [if_pos rfl] at H; exact H
          clear H
          have H := H1
          clear H1
          by_cases c17 : t267 = (Int.tmod (rd t261 0) 32)
          · rw [if_pos c17] at H
            have c17b0 : (t267 == (Int.tmod (rd t261 0) 32)) = true := beq_iff_eq.mpr c17
            have c17b1 : (t267 != (Int.tmod (rd t261 0) 32)) = false := bne_eq_false_iff_eq.mpr c17
            clear c17
            replace H := Option.bind_eq_some_iff.mp H
            obtain ⟨t281, A180, H⟩ := H
            replace H : (if t281 = (Int.tmod (rd t261 1) 32) then ((impl_FlagsAfter.f k t270 2 (Int.tmod (rd t261 1) 32)).bind fun t282 => (if t282 = t269 then ((impl_FlagsAfter.f k t270 3 (Int.tmod (rd t261 1) 32)).bind fun t283 => (if t283 = t270 then ((impl_FlagsAfter.f k t270 2 (Int.tmod (rd t261 0) 32)).bind fun t284 => ((spec_FlagsAfter.f k t270 2 (Int.tmod (rd t261 0) 32)).bind fun t285 => (if t284 = t285 then (if t272 = true then (if t271 = 9 then ((impl_FlagsAfter.f k t273 t274 t275).bind fun t286 => ((spec_FlagsAfter.f k t273 t274 t275).bind fun t287 => (if t286 = t287 then (if (t278 == t280) = true then (if t277 = t279 then ((impl_FlagsOk.f (Int.tmod (rd t261 0) 32)).bind fun t288 => (some t288)) else (some false)) else (some false)) else (some false)))) else (some false)) else (some false)) else (some false)))) else (some false))) else (some false))) else (some false)) = some r := H
            have A18 := Aside0.mk A180
            clear A180
            by_cases c19 : t281 = (Int.tmod (rd t261 1) 32)
            · rw [if_pos c19] at H
              have c19b0 : (t281 == (Int.tmod (rd t261 1) 32)) = true := beq_iff_eq.mpr c19
              have c19b1 : (t281 != (Int.tmod (rd t261 1) 32)) = false := bne_eq_false_iff_eq.mpr c19
              clear c19
              replace H := Option.bind_eq_some_iff.mp H
              obtain ⟨t282, A200, H⟩ := H
              replace H : (if t282 = t269 then ((impl_FlagsAfter.f k t270 3 (Int.tmod (rd t261 1) 32)).bind fun t283 => (if t283 = t270 then ((impl_FlagsAfter.f k t270 2 (Int.tmod (rd t261 0) 32)).bind fun t284 => ((spec_FlagsAfter.f k t270 2 (Int.tmod (rd t261 0) 32)).bind fun t285 => (if t284 = t285 then (if t272 = true then (if t271 = 9 then ((impl_FlagsAfter.f k t273 t274 t275).bind fun t286 => ((spec_FlagsAfter.f k t273 t274 t275).bind fun t287 => (if t286 = t287 then (if (t278 == t280) = true then (if t277 = t279 then ((impl_FlagsOk.f (Int.tmod (rd t261 0) 32)).bind fun t288 => (some t288)) else (some false)) else (some false)) else (some false)))) else (some false)) else (some false)) else (some false)))) else (some false))) else (some false)) = some r := H
              have A20 := Aside0.mk A200
              clear A200
              by_cases c21 : t282 = t269
              · rw [if_pos c21] at H
                have c21b0 : (t282 == t269) = true := beq_iff_eq.mpr c21
                have c21b1 : (t282 != t269) = false := bne_eq_false_iff_eq.mpr c21
                clear c21
                replace H := Option.bind_eq_some_iff.mp H
                obtain ⟨t283, A220, H⟩ := H
                replace H : (if t283 = t270 then ((impl_FlagsAfter.f k t270 2 (Int.tmod (rd t261 0) 32)).bind fun t284 => ((spec_FlagsAfter.f k t270 2 (Int.tmod (rd t261 0) 32)).bind fun t285 => (if t284 = t285 then (if t272 = true then (if t271 = 9 then ((impl_FlagsAfter.f k t273 t274 t275).bind fun t286 => ((spec_FlagsAfter.f k t273 t274 t275).bind fun t287 => (if t286 = t287 then (if (t278 == t280) = true then (if t277 = t279 then ((impl_FlagsOk.f (Int.tmod (rd t261 0) 32)).bind fun t288 => (some t288)) else (some false)) else (some false)) else (some false)))) else (some false)) else (some false)) else (some false)))) else (some false)) = some r := H
                have A22 := Aside0.mk A220
                clear A220
                by_cases c23 : t283 = t270
                · rw [if_pos c23] at H
                  have c23b0 : (t283 == t270) = true := beq_iff_eq.mpr c23
                  have c23b1 : (t283 != t270) = false := bne_eq_false_iff_eq.mpr c23
                  clear c23
                  replace H := Option.bind_eq_some_iff.mp H
                  obtain ⟨t284, A240, H⟩ := H
                  replace H : ((spec_FlagsAfter.f k t270 2 (Int.tmod (rd t261 0) 32)).bind fun t285 => (if t284 = t285 then (if t272 = true then (if t271 = 9 then ((impl_FlagsAfter.f k t273 t274 t275).bind fun t286 => ((spec_FlagsAfter.f k t273 t274 t275).bind fun t287 => (if t286 = t287 then (if (t278 == t280) = true then (if t277 = t279 then ((impl_FlagsOk.f (Int.tmod (rd t261 0) 32)).bind fun t288 => (some t288)) else (some false)) else (some false)) else (some false)))) else (some false)) else (some false)) else (some false))) = some r := H
                  have A24 := Aside0.mk A240
                  clear A240
                  replace H := Option.bind_eq_some_iff.mp H
                  obtain ⟨t285, A250, H⟩ := H
                  replace H : (if t284 = t285 then (if t272 = true then (if t271 = 9 then ((impl_FlagsAfter.f k t273 t274 t275).bind fun t286 => ((spec_FlagsAfter.f k t273 t274 t275).bind fun t287 => (if t286 = t287 then (if (t278 == t280) = true then (if t277 = t279 then ((impl_FlagsOk.f (Int.tmod (rd t261 0) 32)).bind fun t288 => (some t288)) else (some false)) else (some false)) else (some false)))) else (some false)) else (some false)) else (some false)) = some r := H
                  have A25 := Aside0.mk A250
                  clear A250
                  by_cases c26 : t284 = t285
                  · rw [if_pos c26] at H
                    have c26b0 : (t284 == t285) = true := beq_iff_eq.mpr c26
                    have c26b1 : (t284 != t285) = false := bne_eq_false_iff_eq.mpr c26
                    clear c26
                    by_cases c27 : t272 = true
                    · subst c27
                      have H1 : (if t271 = 9 then ((impl_FlagsAfter.f k t273 t274 t275).bind fun t286 => ((spec_FlagsAfter.f k t273 t274 t275).bind fun t287 => (if t286 = t287 then (if (t278 == t280) = true then (if t277 = t279 then ((impl_FlagsOk.f (Int.tmod (rd t261 0) 32)).bind fun t288 => (some t288)) else (some false)) else (some false)) else (some false)))) else (some false)) = some r := by rw [if_pos rfl] at H; exact H
                      clear H
                      have H := H1
                      clear H1
                      by_cases c28 : t271 = 9
                      · rw [if_pos c28] at H
                        have c28b0 : (t271 == 9) = true := beq_iff_eq.mpr c28
                        have c28b1 : (t271 != 9) = false := bne_eq_false_iff_eq.mpr c28
                        clear c28
                        replace H := Option.bind_eq_some_iff.mp H
                        obtain ⟨t286, A290, H⟩ := H
                        replace H : ((spec_FlagsAfter.f k t273 t274 t275).bind fun t287 => (if t286 = t287 then (if (t278 == t280) = true then (if t277 = t279 then ((impl_FlagsOk.f (Int.tmod (rd t261 0) 32)).bind fun t288 => (some t288)) else (some false)) else (some false)) else (some false))) = some r := H
                        have A29 := Aside0.mk A290
                        clear A290
                        replace H := Option.bind_eq_some_iff.mp H
                        obtain ⟨t287, A300, H⟩ := H
                        replace H : (if t286 = t287 then (if (t278 == t280) = true then (if t277 = t279 then ((impl_FlagsOk.f (Int.tmod (rd t261 0) 32)).bind fun t288 => (some t288)) else (some false)) else (some false)) else (some false)) = some r := H
                        have A30 := Aside0.mk A300
                        clear A300
                        by_cases c31 : t286 = t287
                        · rw [if_pos c31] at H
                          have c31b0 : (t286 == t287) = true := beq_iff_eq.mpr c31
                          have c31b1 : (t286 != t287) = false := bne_eq_false_iff_eq.mpr c31
                          clear c31
                          by_cases c32 : (t278 == t280) = true
                          · rw [if_pos c32] at H
                            have c32b0 : (t278 == t280) = true := c32
                            (try (have c32b1 : decide (t278 = t280) = true := by simpa using c32))
                            (try (have c32b2 : (t278 == t280) = true := by simpa using c32))
                            clear c32
                            by_cases c33 : t277 = t279
                            · rw [if_pos c33] at H
                              have c33b0 : (t277 == t279) = true := beq_iff_eq.mpr c33
                              have c33b1 : (t277 != t279) = false := bne_eq_false_iff_eq.mpr c33
                              clear c33
                              replace H := Option.bind_eq_some_iff.mp H
                              obtain ⟨t288, A340, H⟩ := H
                              replace H : (some t288) = some r := H
                              have A34 := Aside0.mk A340
                              clear A340
                              obtain rfl := Option.some.inj H
                              go_enter Tryd.func4, Tryd.ntmps4
                              go_wp2_with (first | ((with_reducible refine gate_callee (f := 7) rfl ?_); refine goesL_ (some 21) rfl rfl Tryd.func7 (by kernel_rfl) rfl #[.slice A0 l0.length c0] rfl (by (try simp only [List.map_toArray, List.map_cons, List.map_nil]); first | done | rfl | (simp only [List.length_drop, List.length_take]; rfl)) ?_; (with_reducible refine (laws_big.calls _ _ l0 false _ ?side1 ?side2 A2.out).mono ?_); (case side1 => repeat (first | exact HR0.out | (with_reducible refine Kd.C_alloc ?_ _) | (with_reducible refine Kd.C_drewN ?_ _) | (with_reducible refine Kd.C_drew ?_))); (case side2 => exact HC0.out); rintro e w' ⟨rfl, ⟨nd, rfl⟩⟩; refine ⟨_, rfl, ?_⟩) | ((with_reducible refine gate_callee (f := 8) rfl ?_); refine goesL_ (some 23) rfl rfl Tryd.func8 (by kernel_rfl) rfl #[.slice A0 l0.length c0] rfl (by (try simp only [List.map_toArray, List.map_cons, List.map_nil]); first | done | rfl | (simp only [List.length_drop, List.length_take]; rfl)) ?_; (with_reducible refine (spec_DrawPlaces.calls k _ _ l0 t261 _ ?side1 ?side2 A4.out).mono ?_); (case side1 => repeat (first | exact HR0.out | (with_reducible refine Kd.C_alloc ?_ _) | (with_reducible refine Kd.C_drewN ?_ _) | (with_reducible refine Kd.C_drew ?_))); (case side2 => exact HC0.out); rintro e w35 ⟨v262, rfl, ho0, hb⟩; refine ⟨_, rfl, ?_⟩; have n0_ := Aside0.mk (Kd.R_lower ho0 (below_size (by repeat (first | (with_reducible first | exact HB.out | apply below_alloc | apply pw_below_drewN | apply below_drew1) | exact HB.out)))); have n1_ := Aside0.mk (below_step (by repeat (first | (with_reducible first | exact HB.out | apply below_alloc | apply pw_below_drewN | apply below_drew1) | exact HB.out)) hb); clear HB; have HO263 := n0_; have HB := n1_; clear n0_ n1_; (try clear hb); (try clear hb2); (try clear hk); (try clear hi); (try clear ho0); obtain ⟨Ao36, co36, eo36⟩ := Kd.R_slice HO263.out; subst eo36; have p264 : 0 ≤ (0 : Int) := (by omega); have q264 : 0 < (t261.length : Int) := of_decide_eq_true (by first | (with_reducible assumption) | assumption); obtain ⟨ad264, e264, hx264_0⟩ := Kd.at_int (Kd.R_reads' HO263.out).2.2 0 p264 q264; cases e264; have qi264 : (0 < t261.length) = True := eq_true (by omega); (try rw [show ((0 : Int)).toNat = 0 from rfl] at hx264_0); (try rw [Addr.add_zero'] at hx264_0); replace p264 := eq_true p264; replace q264 := eq_true q264; have p265 : 0 ≤ (1 : Int) := (by omega); have q265 : 1 < (t261.length : Int) := of_decide_eq_true (by first | (with_reducible assumption) | assumption); obtain ⟨ad265, e265, hx265_0⟩ := Kd.at_int (Kd.R_reads' HO263.out).2.2 1 p265 q265; obtain rfl : ad264 = ad265 := (by injection e265); (try simp only [show (1 : Int).toNat = 1 from rfl, Nat.reduceMul, Nat.reduceEqDiff, Go.Addr.add, ↓reduceIte] at hx265_0); have qi265 : (1 < t261.length) = True := eq_true (by omega); (try rw [show ((1 : Int)).toNat = 1 from rfl] at hx265_0); replace p265 := eq_true p265; replace q265 := eq_true q265) | ((with_reducible refine gate_callee (f := 9) rfl ?_); refine goesL_ (some 34) rfl rfl Tryd.func9 (by kernel_rfl) rfl #[.int .i64 (Int.tmod (rd t261 0) 32)] rfl (by (try simp only [List.map_toArray, List.map_cons, List.map_nil]); first | done | rfl | (simp only [List.length_drop, List.length_take]; rfl)) ?_; (with_reducible refine (impl_FlagsText.calls k (Int.tmod (rd t261 0) 32) t266 _ A7.out).mono ?_); rintro e w37 ⟨rfl, hb⟩; refine ⟨_, rfl, ?_⟩; have n0_ := Aside0.mk (Kd.R_below (by (with_reducible repeat (first | apply Kd.R_alloc | apply Kd.R_drewN | apply Kd.R_drew)); exact HO263.out) hb); have n1_ := Aside0.mk (below_step (by repeat (first | (with_reducible first | exact HB.out | apply below_alloc | apply pw_below_drewN | apply below_drew1) | exact HB.out)) hb); clear HO263; clear HB; have HO263 := n0_; have HB := n1_; clear n0_ n1_; (try clear hb); (try clear hb2); (try clear hk); (try clear hi)) | ((with_reducible refine gate_callee (f := 6) rfl ?_); refine goesL_ (some 35) rfl rfl Tryd.func6 (by kernel_rfl) rfl #[.string t266] rfl (by (try simp only [List.map_toArray, List.map_cons, List.map_nil]); first | done | rfl | (simp only [List.length_drop, List.length_take]; rfl)) ?_; (with_reducible refine (impl_ReadFlags.calls k t266 t267 true _ ?sidegl A8.out).mono ?_); (case sidegl => exact HGL.out.of (by repeat (first | (with_reducible first | exact HB.out | apply below_alloc | apply pw_below_drewN | apply below_drew1) | exact HB.out))); rintro e w38 ⟨rfl, hb⟩; refine ⟨_, rfl, ?_⟩; have n0_ := Aside0.mk (Kd.R_below (by (with_reducible repeat (first | apply Kd.R_alloc | apply Kd.R_drewN | apply Kd.R_drew)); exact HO263.out) hb); have n1_ := Aside0.mk (below_step (by repeat (first | (with_reducible first | exact HB.out | apply below_alloc | apply pw_below_drewN | apply below_drew1) | exact HB.out)) hb); clear HO263; clear HB; have HO263 := n0_; have HB := n1_; clear n0_ n1_; (try clear hb); (try clear hb2); (try clear hk); (try clear hi)) | ((with_reducible refine gate_callee (f := 10) rfl ?_); refine goesL_ (some 40) rfl rfl Tryd.func10 (by kernel_rfl) rfl #[.int .i64 (Int.tmod (rd t261 0) 32), .int .i64 2, .int .i64 (Int.tmod (rd t261 1) 32)] rfl (by (try simp only [List.map_toArray, List.map_cons, List.map_nil]); first | done | rfl | (simp only [List.length_drop, List.length_take]; rfl)) ?_; (with_reducible refine (impl_FlagsAfter.calls k (Int.tmod (rd t261 0) 32) 2 (Int.tmod (rd t261 1) 32) t269 _ A9.out).mono ?_); rintro e w' ⟨rfl, ⟨nd, rfl⟩⟩; refine ⟨_, rfl, ?_⟩) | ((with_reducible refine gate_callee (f := 10) rfl ?_); refine goesL_ (some 43) rfl rfl Tryd.func10 (by kernel_rfl) rfl #[.int .i64 t269, .int .i64 3, .int .i64 (Int.tmod (rd t261 1) 32)] rfl (by (try simp only [List.map_toArray, List.map_cons, List.map_nil]); first | done | rfl | (simp only [List.length_drop, List.length_take]; rfl)) ?_; (with_reducible refine (impl_FlagsAfter.calls k t269 3 (Int.tmod (rd t261 1) 32) t270 _ A10.out).mono ?_); rintro e w' ⟨rfl, ⟨nd, rfl⟩⟩; refine ⟨_, rfl, ?_⟩) | ((with_reducible refine gate_callee (f := 6) rfl ?_); refine goesL_ (some 45) rfl rfl Tryd.func6 (by kernel_rfl) rfl #[.string (⟨#[40, 68, 101, 108, 101, 116, 101, 100, 32, 83, 69, 69, 78, 41]⟩ : ByteArray)] rfl (by (try simp only [List.map_toArray, List.map_cons, List.map_nil]); first | done | rfl | (simp only [List.length_drop, List.length_take]; rfl)) ?_; (with_reducible refine (impl_ReadFlags.calls k (⟨#[40, 68, 101, 108, 101, 116, 101, 100, 32, 83, 69, 69, 78, 41]⟩ : ByteArray) t271 true _ ?sidegl A11.out).mono ?_); (case sidegl => exact HGL.out.of (by repeat (first | (with_reducible first | exact HB.out | apply below_alloc | apply pw_below_drewN | apply below_drew1) | exact HB.out))); rintro e w39 ⟨rfl, hb⟩; refine ⟨_, rfl, ?_⟩; have n0_ := Aside0.mk (Kd.R_below (by (with_reducible repeat (first | apply Kd.R_alloc | apply Kd.R_drewN | apply Kd.R_drew)); exact HO263.out) hb); have n1_ := Aside0.mk (below_step (by repeat (first | (with_reducible first | exact HB.out | apply below_alloc | apply pw_below_drewN | apply below_drew1) | exact HB.out)) hb); clear HO263; clear HB; have HO263 := n0_; have HB := n1_; clear n0_ n1_; (try clear hb); (try clear hb2); (try clear hk); (try clear hi)) | ((with_reducible refine gate_callee (f := 11) rfl ?_); refine goesL_ (some 50) rfl rfl Tryd.func11 (by kernel_rfl) rfl #[.slice A0 l0.length c0] rfl (by (try simp only [List.map_toArray, List.map_cons, List.map_nil]); first | done | rfl | (simp only [List.length_drop, List.length_take]; rfl)) ?_; (with_reducible refine (spec_DrawFlagsAfter.calls k _ _ l0 t273 t274 t275 _ ?side1 ?side2 A12.out).mono ?_); (case side1 => repeat (first | exact (Kd.C_below HR0.out HB.out) | (with_reducible refine Kd.C_alloc ?_ _) | (with_reducible refine Kd.C_drewN ?_ _) | (with_reducible refine Kd.C_drew ?_))); (case side2 => exact HC0.out); rintro e w40 ⟨rfl, hb⟩; refine ⟨_, rfl, ?_⟩; have n0_ := Aside0.mk (Kd.R_below (by (with_reducible repeat (first | apply Kd.R_alloc | apply Kd.R_drewN | apply Kd.R_drew)); exact HO263.out) hb); have n1_ := Aside0.mk (below_step (by repeat (first | (with_reducible first | exact HB.out | apply below_alloc | apply pw_below_drewN | apply below_drew1) | exact HB.out)) hb); clear HO263; clear HB; have HO263 := n0_; have HB := n1_; clear n0_ n1_; (try clear hb); (try clear hb2); (try clear hk); (try clear hi)) | ((with_reducible refine gate_callee (f := 12) rfl ?_); refine goesL_ (some 55) rfl rfl Tryd.func12 (by kernel_rfl) rfl #[.slice A0 l0.length c0] rfl (by (try simp only [List.map_toArray, List.map_cons, List.map_nil]); first | done | rfl | (simp only [List.length_drop, List.length_take]; rfl)) ?_; (with_reducible refine (spec_DrawReadFlags.calls k _ _ l0 t276 _ ?side1 ?side2 A13.out).mono ?_); (case side1 => repeat (first | exact (Kd.C_below HR0.out HB.out) | (with_reducible refine Kd.C_alloc ?_ _) | (with_reducible refine Kd.C_drewN ?_ _) | (with_reducible refine Kd.C_drew ?_))); (case side2 => exact HC0.out); rintro e w41 ⟨rfl, hb⟩; refine ⟨_, rfl, ?_⟩; have n0_ := Aside0.mk (Kd.R_below (by (with_reducible repeat (first | apply Kd.R_alloc | apply Kd.R_drewN | apply Kd.R_drew)); exact HO263.out) hb); have n1_ := Aside0.mk (below_step (by repeat (first | (with_reducible first | exact HB.out | apply below_alloc | apply pw_below_drewN | apply below_drew1) | exact HB.out)) hb); clear HO263; clear HB; have HO263 := n0_; have HB := n1_; clear n0_ n1_; (try clear hb); (try clear hb2); (try clear hk); (try clear hi)) | ((with_reducible refine gate_callee (f := 6) rfl ?_); refine goesL_ (some 58) rfl rfl Tryd.func6 (by kernel_rfl) rfl #[.string t276] rfl (by (try simp only [List.map_toArray, List.map_cons, List.map_nil]); first | done | rfl | (simp only [List.length_drop, List.length_take]; rfl)) ?_; (with_reducible refine (impl_ReadFlags.calls k t276 t277 t278 _ ?sidegl A14.out).mono ?_); (case sidegl => exact HGL.out.of (by repeat (first | (with_reducible first | exact HB.out | apply below_alloc | apply pw_below_drewN | apply below_drew1) | exact HB.out))); rintro e w42 ⟨rfl, hb⟩; refine ⟨_, rfl, ?_⟩; have n0_ := Aside0.mk (Kd.R_below (by (with_reducible repeat (first | apply Kd.R_alloc | apply Kd.R_drewN | apply Kd.R_drew)); exact HO263.out) hb); have n1_ := Aside0.mk (below_step (by repeat (first | (with_reducible first | exact HB.out | apply below_alloc | apply pw_below_drewN | apply below_drew1) | exact HB.out)) hb); clear HO263; clear HB; have HO263 := n0_; have HB := n1_; clear n0_ n1_; (try clear hb); (try clear hb2); (try clear hk); (try clear hi)) | ((with_reducible refine gate_callee (f := 5) rfl ?_); refine goesL_ (some 63) rfl rfl Tryd.func5 (by kernel_rfl) rfl #[.string t276] rfl (by (try simp only [List.map_toArray, List.map_cons, List.map_nil]); first | done | rfl | (simp only [List.length_drop, List.length_take]; rfl)) ?_; (with_reducible refine (spec_ReadFlags.calls k t276 t279 t280 _ A15.out).mono ?_); rintro e w43 ⟨rfl, hb⟩; refine ⟨_, rfl, ?_⟩; have n0_ := Aside0.mk (Kd.R_below (by (with_reducible repeat (first | apply Kd.R_alloc | apply Kd.R_drewN | apply Kd.R_drew)); exact HO263.out) hb); have n1_ := Aside0.mk (below_step (by repeat (first | (with_reducible first | exact HB.out | apply below_alloc | apply pw_below_drewN | apply below_drew1) | exact HB.out)) hb); clear HO263; clear HB; have HO263 := n0_; have HB := n1_; clear n0_ n1_; (try clear hb); (try clear hb2); (try clear hk); (try clear hi)) | (go_at_call 10; (with_reducible refine (impl_FlagsAfter.calls k (Int.tmod (rd t261 0) 32) 1 (Int.tmod (rd t261 1) 32) t281 _ A18.out).mono ?_); rintro e w' ⟨rfl, ⟨nd, rfl⟩⟩) | (go_at_call 10; (with_reducible refine (impl_FlagsAfter.calls k t270 2 (Int.tmod (rd t261 1) 32) t282 _ A20.out).mono ?_); rintro e w' ⟨rfl, ⟨nd, rfl⟩⟩) | (go_at_call 10; (with_reducible refine (impl_FlagsAfter.calls k t270 3 (Int.tmod (rd t261 1) 32) t283 _ A22.out).mono ?_); rintro e w' ⟨rfl, ⟨nd, rfl⟩⟩) | (go_at_call 10; (with_reducible refine (impl_FlagsAfter.calls k t270 2 (Int.tmod (rd t261 0) 32) t284 _ A24.out).mono ?_); rintro e w' ⟨rfl, ⟨nd, rfl⟩⟩) | (go_at_call 13; (with_reducible refine (spec_FlagsAfter.calls k t270 2 (Int.tmod (rd t261 0) 32) t285 _ A25.out).mono ?_); rintro e w' ⟨rfl, ⟨nd, rfl⟩⟩) | (go_at_call 10; (with_reducible refine (impl_FlagsAfter.calls k t273 t274 t275 t286 _ A29.out).mono ?_); rintro e w' ⟨rfl, ⟨nd, rfl⟩⟩) | (go_at_call 13; (with_reducible refine (spec_FlagsAfter.calls k t273 t274 t275 t287 _ A30.out).mono ?_); rintro e w' ⟨rfl, ⟨nd, rfl⟩⟩) | (go_at_call 14; (with_reducible refine (impl_FlagsOk.calls (Int.tmod (rd t261 0) 32) t288 _ A34.out).mono ?_); rintro e w' ⟨rfl, ⟨nd, rfl⟩⟩))
                              go_ret
                              exact ⟨by first | rfl | (simp [errW_none, errW_some] <;> rfl) | (simp [*, errW_none, errW_some] <;> rfl), by repeat (first | (with_reducible first | exact HB.out | apply below_alloc | apply pw_below_drewN | apply below_drew1) | exact HB.out)⟩
                            · rw [if_neg c33] at H
                              have c33b0 : (t277 == t279) = false := beq_eq_false_iff_ne.mpr c33
                              have c33b1 : (t277 != t279) = true := bne_iff_ne.mpr c33
                              obtain rfl := Option.some.inj H
                              exact absurd HR_.out (by decide)
                          · rw [if_neg c32] at H
                            have c32b0 : (t278 == t280) = false := by simpa using c32
                            (try (have c32b1 : decide (t278 = t280) = false := by simpa using c32))
                            (try (have c32b2 : (t278 == t280) = false := by simpa using c32))
                            (try (have c32b3 : ¬ (t278 = t280) := by simpa using c32))
                            clear c32
                            obtain rfl := Option.some.inj H
                            exact absurd HR_.out (by decide)
                        · rw [if_neg c31] at H
                          have c31b0 : (t286 == t287) = false := beq_eq_false_iff_ne.mpr c31
                          have c31b1 : (t286 != t287) = true := bne_iff_ne.mpr c31
                          obtain rfl := Option.some.inj H
                          exact absurd HR_.out (by decide)
                      · rw [if_neg c28] at H
                        have c28b0 : (t271 == 9) = false := beq_eq_false_iff_ne.mpr c28
                        have c28b1 : (t271 != 9) = true := bne_iff_ne.mpr c28
                        obtain rfl := Option.some.inj H
                        exact absurd HR_.out (by decide)
                    · replace c27 := Bool.eq_false_iff.mpr c27
                      subst c27
                      have H1 : (some false) = some r := by rw [if_neg (show ¬ (false = true) by decide)] at H; exact H
                      clear H
                      have H := H1
                      clear H1
                      obtain rfl := Option.some.inj H
                      exact absurd HR_.out (by decide)
                  · rw [if_neg c26] at H
                    have c26b0 : (t284 == t285) = false := beq_eq_false_iff_ne.mpr c26
                    have c26b1 : (t284 != t285) = true := bne_iff_ne.mpr c26
                    obtain rfl := Option.some.inj H
                    exact absurd HR_.out (by decide)
                · rw [if_neg c23] at H
                  have c23b0 : (t283 == t270) = false := beq_eq_false_iff_ne.mpr c23
                  have c23b1 : (t283 != t270) = true := bne_iff_ne.mpr c23
                  obtain rfl := Option.some.inj H
                  exact absurd HR_.out (by decide)
              · rw [if_neg c21] at H
                have c21b0 : (t282 == t269) = false := beq_eq_false_iff_ne.mpr c21
                have c21b1 : (t282 != t269) = true := bne_iff_ne.mpr c21
                obtain rfl := Option.some.inj H
                exact absurd HR_.out (by decide)
            · rw [if_neg c19] at H
              have c19b0 : (t281 == (Int.tmod (rd t261 1) 32)) = false := beq_eq_false_iff_ne.mpr c19
              have c19b1 : (t281 != (Int.tmod (rd t261 1) 32)) = true := bne_iff_ne.mpr c19
              obtain rfl := Option.some.inj H
              exact absurd HR_.out (by decide)
          · rw [if_neg c17] at H
            have c17b0 : (t267 == (Int.tmod (rd t261 0) 32)) = false := beq_eq_false_iff_ne.mpr c17
            have c17b1 : (t267 != (Int.tmod (rd t261 0) 32)) = true := bne_iff_ne.mpr c17
            obtain rfl := Option.some.inj H
            exact absurd HR_.out (by decide)
        · replace c16 := Bool.eq_false_iff.mpr c16
          subst c16
          have H1 : (some false) = some r := by rw [if_neg (show ¬ (false = true) by decide)] at H; exact H
          clear H
          have H := H1
          clear H1
          obtain rfl := Option.some.inj H
          exact absurd HR_.out (by decide)
      · rw [if_neg c6] at H
        exact absurd H (by simp)
    · rw [if_neg c5] at H
      exact absurd H (by simp)

/-- THE ONE PURE STATEMENT of laws_FnFlags: yours. -/
def laws_FnFlags.Pure : Prop := ∀ (l0 : List Int), l0.length ≤ maxLen → l0.length * 1 ≤ 140737488351232 → (∀ x ∈ l0, (Lit.int .u8 x).wf = true) → ∃ k, laws_FnFlags.f k l0 = some true
theorem laws_FnFlags.walk (P : laws_FnFlags.Pure) (a0 : Option Addr) (len0 cap0 : Nat) (z0 : List Int) (w : World) (w0 : (a0 = none ∧ len0 = 0 ∧ cap0 = 0 ∧ z0 = []) ∨ ∃ x, a0 = some x ∧ len0 ≤ cap0 ∧ cap0 ≤ maxLen ∧ z0.length = cap0 ∧ (∀ i, i < z0.length → w.cell? (x.add i) = some (.int .u8 (z0.getD i 0))) ∧ ∀ n ∈ z0, (Lit.int .u8 n).wf = true) (y0 : len0 * 1 ≤ 140737488351232) (hgl : GlobOk w) :
    Calls Tryd.prog 4 #[.slice a0 len0 cap0] w fun e w' => e = .returned (.bool true) ∧ Below w.heap.size w w' := by
  obtain ⟨l0, rfl, hr0, hm0, hw0, hc0⟩ := ReadsInt.ofRowC w0
  obtain ⟨k, h⟩ := P l0 hm0 y0 hw0
  refine (laws_FnFlags.calls k _ _ l0 true w (Kd.C_of_reads (d := (0 : Int)) (h1 := fun _ => rfl) hr0) hc0 rfl hgl h).mono ?_
  rintro e w' ⟨rfl, hd⟩
  exact ⟨rfl, hd⟩

end Go.Proofs.YtpeifbiboghceaaDoor.PFnFlags
