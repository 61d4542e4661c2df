import Derived.Test.YtdiecogmaiglaaaQFnActsx0
import Derived.Test.YtdiecogmaiglaaaQFnActsx13
namespace Go.Proofs.Ytdiecogmaiglaaa.PFnActs
open Go.RowKit Go.Proofs.YtdiecogmaiglaaaW.PrintWords Go.Proofs.YtdiecogmaiglaaaW.PrintLast Go.Proofs.YtdiecogmaiglaaaW.PrintMore
attribute [local go_sem] max2_int min2_int max_two min_two max_three min_three max_four min_four   -- for this text's walks alone
set_option linter.unusedVariables false
set_option linter.unusedSimpArgs false

/-! ### spec_Decimal: function 84 -/
def spec_Decimal.l0 : Nat → Int → Bool → ByteArray → Option (ByteArray)
 | 0, _, _, _ => none
 | k + 1, x0, x3, x4 => if x0 = 0 then (if x3 = true then (if 1 + x4.size ≤ 9223372036854775807 then (some ((⟨#[45]⟩ : ByteArray) ++ x4)) else (none)) else (some x4)) else (if (Int.tmod x0 10) < 0 then ((spec_l01Figure.f (wrap64 (-(Int.tmod x0 10)))).bind fun t292 => ((some (([t292] : List Int) : List Int)).bind fun y293 => (if (strOfNums y293).size + x4.size ≤ 9223372036854775807 then (spec_Decimal.l0 k (wrap64 (Int.tdiv x0 10)) x3 ((strOfNums y293) ++ x4)) else (none)))) else ((spec_l01Figure.f (Int.tmod x0 10)).bind fun t296 => ((some (([t296] : List Int) : List Int)).bind fun y297 => (if (strOfNums y297).size + x4.size ≤ 9223372036854775807 then (spec_Decimal.l0 k (wrap64 (Int.tdiv x0 10)) x3 ((strOfNums y297) ++ x4)) else (none)))))
def spec_Decimal.f (k : Nat) (a0 : Int) : Option (ByteArray) := if a0 = 0 then (some (⟨#[48]⟩ : ByteArray)) else (spec_Decimal.l0 k a0 (decide (a0 < 0)) (⟨#[]⟩ : ByteArray))
theorem spec_Decimal.mono_l : ∀ k, (∀ y0 y1 y2, LeO (spec_Decimal.l0 k y0 y1 y2) (spec_Decimal.l0 (k + 1) y0 y1 y2))
 | 0 => fun _ _ _ r h => by simp [spec_Decimal.l0] at h
 | k + 1 => by
  have ih0 := spec_Decimal.mono_l k
  intro y0 y1 y2
  unfold spec_Decimal.l0
  repeat' first
  | (with_reducible exact ih0 _ _ _)
  | (with_reducible exact LeO.refl _)
  | (with_reducible exact LeO.none _)
  | (with_reducible refine LeO.ite ?_ ?_)
  | (with_reducible refine LeO.bind ?_ (fun _ => ?_))
  | exact ih0 _ _ _
  | exact LeO.none _
  | refine LeO.ite ?_ ?_
  | refine LeO.bind ?_ (fun _ => ?_)
theorem spec_Decimal.mono : ∀ a0 k, LeO (spec_Decimal.f k a0) (spec_Decimal.f (k + 1) a0) := by
 intro a0 k
 have ih0 := spec_Decimal.mono_l k
 unfold spec_Decimal.f
 repeat' first
   | (with_reducible exact ih0 _ _ _)
   | (with_reducible exact LeO.refl _)
   | (with_reducible exact LeO.none _)
   | (with_reducible refine LeO.ite ?_ ?_)
   | (with_reducible refine LeO.bind ?_ (fun _ => ?_))
   | exact ih0 _ _ _
   | exact LeO.none _
   | refine LeO.ite ?_ ?_
   | refine LeO.bind ?_ (fun _ => ?_)
set_option maxHeartbeats 8000000 in
set_option maxRecDepth 100000 in
theorem spec_Decimal.calls (k : Nat) (a0 : Int) (r : ByteArray) (w : World) (h : spec_Decimal.f k a0 = some r) :
  Calls Try.prog 84 #[.int .i64 a0] w fun e w' => e = .returned (.string r) ∧ Below w.heap.size w w' := by
 have HB := Aside0.mk (Below.refl w.heap.size w)
 have H : (if a0 = 0 then (some (⟨#[48]⟩ : ByteArray)) else (spec_Decimal.l0 k a0 (decide (a0 < 0)) (⟨#[]⟩ : ByteArray))) = some r := h
 clear h
 by_cases c2 : a0 = 0
 ·rw [if_pos c2] at H
  have Am : (a0 == 0) = true := beq_iff_eq.mpr c2
  have Al : (a0 != 0) = false := bne_eq_false_iff_eq.mpr c2
  clear c2
  obtain rfl := Option.some.inj H
  go_enter Try.func84, Try.ntmps84
  go_wp2
  go_ret
  exact ⟨ze, zw HB⟩
 rw [if_neg c2] at H
 have Am : (a0 == 0) = false := beq_eq_false_iff_ne.mpr c2
 have Al : (a0 != 0) = true := bne_iff_ne.mpr c2
 have H' := Aside0.mk H
 clear H
 go_enter Try.func84, Try.ntmps84
 go_wp2
 go_loopg [0, 4] k (fun kq v0 v4 w' => ∃ (Aa : Int) (Ab : ByteArray), v0 = .int .i64 Aa ∧ v4 = .string Ab ∧ Aside0 (spec_Decimal.l0 kq Aa (decide (a0 < 0)) Ab = some r) ∧ Aside0 (kq ≤ k) ∧ Aside0 (Below w.heap.size w w'))
 case atStart => exact ⟨(a0), ((⟨#[]⟩ : ByteArray)), zf, zf, H', ⟨Nat.le_refl _⟩, ⟨zw HB⟩⟩
 case round =>
  clear H'
  try clear c2
  try clear Am
  try clear Al
  try clear p2
  obtain ⟨Aa, Ab, rfl, rfl, HA, As, HB⟩ := hrel
  cases gk with
  | zero => exact absurd HA.out (by simp [spec_Decimal.l0])
  | succ k1 =>
   have H := HA.out
   clear HA
   simp only [spec_Decimal.l0] at H
   by_cases c3 : Aa = 0
   ·rw [if_pos c3] at H
    have Ax : (Aa == 0) = true := beq_iff_eq.mpr c3
    have Aw : (Aa != 0) = false := bne_eq_false_iff_eq.mpr c3
    clear c3
    by_cases c4 : (decide (a0 < 0)) = true
    ·rw [if_pos c4] at H
     have Ak : (decide (a0 < 0)) = true := c4
     have c4d1 := of_decide_eq_true Ak
     clear c4
     by_cases c5 : 1 + Ab.size ≤ 9223372036854775807
     ·rw [if_pos c5] at H
      have c5b0 := eq_true c5
      have c5b1 := decide_eq_true c5
      try have c5b2 : (9223372036854775807 < 1 + Ab.size) = False := eq_false (Nat.not_lt.2 c5)
      obtain rfl := Option.some.inj H
      go_wp2
      go_ret
      exact ⟨ze, zw HB⟩
     rw [if_neg c5] at H
     exact absurd H (by simp)
    rw [if_neg c4] at H
    have Ak : (decide (a0 < 0)) = false := by simpa using c4
    have c4d1 := of_decide_eq_false Ak
    clear c4
    obtain rfl := Option.some.inj H
    go_wp2
    go_ret
    exact ⟨ze, zw HB⟩
   rw [if_neg c3] at H
   have Ax : (Aa == 0) = false := beq_eq_false_iff_ne.mpr c3
   have Aw : (Aa != 0) = true := bne_iff_ne.mpr c3
   by_cases c6 : (Int.tmod Aa 10) < 0
   ·rw [if_pos c6] at H
    have Au := decide_eq_true c6
    clear c6
    replace H := Option.bind_eq_some_iff.mp H
    obtain ⟨Ad, Ay, H⟩ := H
    have A7 := Aside0.mk Ay
    clear Ay
    obtain ⟨Af, Ah⟩ : ∃ y_ : List Int, y_ = (([Ad] : List Int)) := ⟨_, rfl⟩
    replace H : (if (strOfNums Af).size + Ab.size ≤ 9223372036854775807 then (spec_Decimal.l0 k1 (wrap64 (Int.tdiv Aa 10)) (decide (a0 < 0)) ((strOfNums Af) ++ Ab)) else (none)) = some r := zrw Ah H
    have Ny293 := Aside0.mk Ah
    clear Ah
    by_cases c8 : (strOfNums Af).size + Ab.size ≤ 9223372036854775807
    ·rw [if_pos c8] at H
     have c8b0 := eq_true c8
     have c8b1 := decide_eq_true c8
     try have c8b2 : (9223372036854775807 < (strOfNums Af).size + Ab.size) = False := eq_false (Nat.not_lt.2 c8)
     have H' := Aside0.mk H
     clear H
     go_wp2_with (first | ((with_reducible refine gate_callee (f := 90) rfl ?_); refine zG (some 19) Try.func90 #[.int .i64 (wrap64 (-(Int.tmod Aa 10)))] ?_; (with_reducible refine (spec_l01Figure.calls (wrap64 (-(Int.tmod Aa 10))) Ad _ A7.out).mono ?_); rintro e w' ⟨rfl, ⟨nd, rfl⟩⟩; refine ⟨_, rfl, ?_⟩) | ((with_reducible refine gate_dst (N := 20) rfl ?_); refine Kd.R_lit (Kd.int .u8) _ 5 ?hg (N := 20) ?hd (xs := ([Ad] : List Int)) (inner := [.int .u8 Ad]) (ok := fun _ => True) (okp := fun _ => True) ?hr ?hp (fun _ hk => hk) trivial (Below.refl _ _) (Nat.le_refl _) (by simp) ?_; (case hd => rfl); (case hg => rfl); (case hr => first | (go_simp; done) | (go_simp; rfl)); (case hp => exact (Reps.one (show Kd.M (Kd.int .u8) _ _ _ Ad [.int .u8 Ad] from rfl) (Reps.none _ _))); intro v294 w9 Aj hb hg_ hnew_; clear hg_ hnew_; (first | rw [← Ny293.out] at Aj | (simp only [Int.reduceToNat] at Aj; rw [← Ny293.out] at Aj)); have Aq := Aside0.mk (Kd.R_lower Aj (below_size (zw HB))); replace HB := zs HB hb; clear hb Aj; have hcv11 := own_string (P := Try.prog) Try.underlying36 Try.underlying5 Try.underlying9 (Kd.own_of_R Aq.out)))
     go_roundg k1
     case measure => have := As.out; omega
     case rel => exact ⟨(wrap64 (Int.tdiv Aa 10)), ((strOfNums Af) ++ Ab), zf, zf, H', ⟨by have := As.out; omega⟩, ⟨zw HB⟩⟩
    rw [if_neg c8] at H
    exact absurd H (by simp)
   rw [if_neg c6] at H
   have Au := decide_eq_false c6
   clear c6
   replace H := Option.bind_eq_some_iff.mp H
   obtain ⟨Ac, Ar, H⟩ := H
   have Az := Aside0.mk Ar
   clear Ar
   obtain ⟨Ae, Ag⟩ : ∃ y_ : List Int, y_ = (([Ac] : List Int)) := ⟨_, rfl⟩
   replace H : (if (strOfNums Ae).size + Ab.size ≤ 9223372036854775807 then (spec_Decimal.l0 k1 (wrap64 (Int.tdiv Aa 10)) (decide (a0 < 0)) ((strOfNums Ae) ++ Ab)) else (none)) = some r := zrw Ag H
   have Ny297 := Aside0.mk Ag
   clear Ag
   by_cases Ao : (strOfNums Ae).size + Ab.size ≤ 9223372036854775807
   ·rw [if_pos Ao] at H
    have c13b0 := eq_true Ao
    have c13b1 := decide_eq_true Ao
    try have c13b2 : (9223372036854775807 < (strOfNums Ae).size + Ab.size) = False := eq_false (Nat.not_lt.2 Ao)
    have H' := Aside0.mk H
    clear H
    go_wp2_with (first | ((with_reducible refine gate_callee (f := 90) rfl ?_); refine zG (some 19) Try.func90 #[.int .i64 (Int.tmod Aa 10)] ?_; (with_reducible refine (spec_l01Figure.calls (Int.tmod Aa 10) Ac _ Az.out).mono ?_); rintro e w' ⟨rfl, ⟨nd, rfl⟩⟩; refine ⟨_, rfl, ?_⟩) | ((with_reducible refine gate_dst (N := 20) rfl ?_); refine Kd.R_lit (Kd.int .u8) _ 5 ?hg (N := 20) ?hd (xs := ([Ac] : List Int)) (inner := [.int .u8 Ac]) (ok := fun _ => True) (okp := fun _ => True) ?hr ?hp (fun _ hk => hk) trivial (Below.refl _ _) (Nat.le_refl _) (by simp) ?_; (case hd => rfl); (case hg => rfl); (case hr => first | (go_simp; done) | (go_simp; rfl)); (case hp => exact (Reps.one (show Kd.M (Kd.int .u8) _ _ _ Ac [.int .u8 Ac] from rfl) (Reps.none _ _))); intro v298 w14 Ai hb hg_ hnew_; clear hg_ hnew_; (first | rw [← Ny297.out] at Ai | (simp only [Int.reduceToNat] at Ai; rw [← Ny297.out] at Ai)); have Ap := Aside0.mk (Kd.R_lower Ai (below_size (zw HB))); replace HB := zs HB hb; clear hb Ai; have hcv16 := own_string (P := Try.prog) Try.underlying36 Try.underlying5 Try.underlying9 (Kd.own_of_R Ap.out)))
    go_roundg k1
    case measure => have := As.out; omega
    case rel => exact ⟨(wrap64 (Int.tdiv Aa 10)), ((strOfNums Ae) ++ Ab), zf, zf, H', ⟨by have := As.out; omega⟩, ⟨zw HB⟩⟩
   rw [if_neg Ao] at H
   exact absurd H (by simp)

/-! ### spec_l01Long: function 85 -/
def spec_l01Long.l0 : Nat → Int → Int → List Int → Int → Option (ByteArray)
 | 0, _, _, _, _ => none
 | k + 1, x0, x1, x5, x6 => if x6 < x0 then (if 0 ≤ x6 then (if x6 < (x5.length : Int) then (spec_l01Long.l0 k x0 x1 (x5.set (x6 : Int).toNat x1) (wrap64 (x6 + 1))) else (none)) else (none)) else (some (strOfNums x5))
def spec_l01Long.f (k : Nat) (a0 : Int) (a1 : Int) : Option (ByteArray) := if 0 ≤ a0 then (if (a0 : Int).toNat ≤ 281474976710656 then (spec_l01Long.l0 k a0 a1 (List.replicate (a0 : Int).toNat 0) 0) else (none)) else (none)
theorem spec_l01Long.mono_l : ∀ k, (∀ y0 y1 y2 y3, LeO (spec_l01Long.l0 k y0 y1 y2 y3) (spec_l01Long.l0 (k + 1) y0 y1 y2 y3))
 | 0 => fun _ _ _ _ r h => by simp [spec_l01Long.l0] at h
 | k + 1 => by
  have ih0 := spec_l01Long.mono_l k
  intro y0 y1 y2 y3
  unfold spec_l01Long.l0
  repeat' first
  | (with_reducible exact ih0 _ _ _ _)
  | (with_reducible exact LeO.refl _)
  | (with_reducible exact LeO.none _)
  | (with_reducible refine LeO.ite ?_ ?_)
  | (with_reducible refine LeO.bind ?_ (fun _ => ?_))
  | exact ih0 _ _ _ _
  | exact LeO.none _
  | refine LeO.ite ?_ ?_
  | refine LeO.bind ?_ (fun _ => ?_)
theorem spec_l01Long.mono : ∀ a0 a1 k, LeO (spec_l01Long.f k a0 a1) (spec_l01Long.f (k + 1) a0 a1) := by
 intro a0 a1 k
 have ih0 := spec_l01Long.mono_l k
 unfold spec_l01Long.f
 repeat' first
   | (with_reducible exact ih0 _ _ _ _)
   | (with_reducible exact LeO.refl _)
   | (with_reducible exact LeO.none _)
   | (with_reducible refine LeO.ite ?_ ?_)
   | (with_reducible refine LeO.bind ?_ (fun _ => ?_))
   | exact ih0 _ _ _ _
   | exact LeO.none _
   | refine LeO.ite ?_ ?_
   | refine LeO.bind ?_ (fun _ => ?_)
set_option maxHeartbeats 8000000 in
set_option maxRecDepth 100000 in
theorem spec_l01Long.calls (k : Nat) (a0 : Int) (a1 : Int) (r : ByteArray) (w : World) (h : spec_l01Long.f k a0 a1 = some r) :
  Calls Try.prog 85 #[.int .i64 a0, .int .u8 a1] w fun e w' => e = .returned (.string r) ∧ Below w.heap.size w w' := by
 have HB := Aside0.mk (Below.refl w.heap.size w)
 have H : (if 0 ≤ a0 then (if (a0 : Int).toNat ≤ 281474976710656 then (spec_l01Long.l0 k a0 a1 (List.replicate (a0 : Int).toNat 0) 0) else (none)) else (none)) = some r := h
 clear h
 by_cases c3 : 0 ≤ a0
 ·rw [if_pos c3] at H
  have Ay := eq_true c3
  have Ax := decide_eq_true c3
  clear c3
  by_cases c4 : (a0 : Int).toNat ≤ 281474976710656
  ·rw [if_pos c4] at H
   have Aw := eq_true c4
   have Au := decide_eq_true c4
   clear c4
   obtain ⟨Ah, Ae⟩ : ∃ y_ : List Int, y_ = (List.replicate (a0 : Int).toNat 0) := ⟨_, rfl⟩
   replace H : (spec_l01Long.l0 k a0 a1 Ah 0) = some r := zrw Ae H
   have Ny300 := Aside0.mk Ae
   clear Ae
   have H' := Aside0.mk H
   clear H
   go_enter Try.func85, Try.ntmps85
   go_wp2_with (first | ((with_reducible refine gate_dst (N := 8) rfl ?_); refine Kd.R_make (Kd.int .u8) _ 5 rfl (N := 8) rfl 36 _ _ rfl a0 rfl rfl Try.underlying36 (.int .u8 0) 1 info5 rfl (by decide) (by omega) 0 (ok := fun _ => True) (okp := fun _ => True) rfl (fun _ hk => hk) trivial (of_decide_eq_true za) (Nat.le_trans (Nat.mul_le_mul_right _ (of_decide_eq_true za : a0.toNat ≤ 281474976710656)) (by omega)) (Below.refl _ _) (Nat.le_refl _) ?_; intro Ao w5 Ai hb hg_ hnew_; clear hg_ hnew_; (first | rw [← Ny300.out] at Ai | (simp only [Int.reduceToNat] at Ai; rw [← Ny300.out] at Ai)); have Al := Aside0.mk (Kd.R_lower Ai (below_size (zw HB))); replace HB := zs HB hb; clear hb Ai))
   go_loopg [6] k (fun kq v6 w' => ∃ (Ab : List Int) (Aa : Int), v6 = .int .i64 Aa ∧ Aside0 (spec_l01Long.l0 kq a0 a1 Ab Aa = some r) ∧ Aside0 (kq ≤ k) ∧ Aside0 (Kd.R (Kd.int .u8) 5 w' w.heap.size (fun _ => True) Ao Ab) ∧ Aside0 (Below w.heap.size w w'))
   case atStart => exact ⟨(Ah), (0), zf, H', ⟨Nat.le_refl _⟩, ⟨zo Al.out⟩, ⟨zw HB⟩⟩
   case round =>
    clear H'
    try clear p2
    try clear c3
    try clear Ay
    try clear Ax
    try clear c4
    try clear Aw
    try clear Au
    obtain ⟨Ab, Aa, rfl, HA, Az, Ac, HB⟩ := hrel
    cases gk with
    | zero => exact absurd HA.out (by simp [spec_l01Long.l0])
    | succ k1 =>
     have H := HA.out
     clear HA
     simp only [spec_l01Long.l0] at H
     by_cases c7 : Aa < a0
     ·rw [if_pos c7] at H
      have As := decide_eq_true c7
      clear c7
      by_cases c8 : 0 ≤ Aa
      ·rw [if_pos c8] at H
       have c8b0 := decide_eq_true c8
       clear c8
       by_cases c9 : Aa < (Ab.length : Int)
       ·rw [if_pos c9] at H
        have c9b0 := decide_eq_true c9
        clear c9
        obtain ⟨Af, Ad⟩ : ∃ y_ : List Int, y_ = (Ab.set (Aa : Int).toNat a1) := ⟨_, rfl⟩
        replace H : (spec_l01Long.l0 k1 a0 a1 Af (wrap64 (Aa + 1))) = some r := zrw Ad H
        have Ny303 := Aside0.mk Ad
        clear Ad
        have H' := Aside0.mk H
        clear H
        have Aq : 0 ≤ (Aa : Int) := of_decide_eq_true za
        have Ap : (Aa : Int) < ((Ab.length : Int) : Int) := of_decide_eq_true za
        obtain ⟨Ag, Ar, Ak, Aj, gl10, cl10, HG10⟩ := Kd.R_form Ac.out (by omega)
        (first | cases Ak | (injection Ak with ea_ en_ ec_; (first | subst ea_ | (injection ea_ with ea_; subst ea_)); subst ec_; clear en_))
        have GB10 := Aside0.mk Aj
        have GG10 := Aside0.mk HG10
        clear Aj gl10 HG10
        obtain ⟨hx10_0, hf10_0⟩ := Kd.R_celln 0 Ac.out (Aa : Int) Aq Ap
        replace Aq := eq_true Aq
        replace Ap := eq_true Ap
        have HP11 := Kd.R_putg Ac.out (Aa : Int) a1
        go_wp2_with (first | ((with_reducible refine gate_store (t := 5) (p := 17) rfl ?_); refine store_event (t := 5) (p := 17) (v := ?vo_w12) (w1 := (wr.setCell ⟨Ag, (Aa : Int).toNat, none⟩ (.int .u8 a1))) ?hg ?ho ?hn ?hr ?_; (case ho => rfl); (case hg => rfl); (case hn => rfl); (case hr => first | (go_simp; done) | (go_simp; rfl)); intro Am hw; have hg : wr.grownBy Am (some Ag) := (by rw [hw]; exact HP11.2); have hp_ : Kd.R (Kd.int .u8) 5 Am w.heap.size (fun _ => True) (.slice (some ⟨Ag, 0, none⟩) Ab.length Ar) Af := (by rw [hw, Ny303.out]; exact HP11.1); clear HP11; replace Ac := Aside0.mk (hp_); replace HB := Aside0.mk ((by rw [hw]; exact below_set (HB.out) GB10.out : Below w.heap.size w Am)); clear hg hw hp_))
        go_roundg k1
        case measure => have := Az.out; omega
        case rel => exact ⟨(Af), (wrap64 (Aa + 1)), zf, H', ⟨by have := Az.out; omega⟩, ⟨zo Ac.out⟩, ⟨zw HB⟩⟩
       rw [if_neg c9] at H
       exact absurd H (by simp)
      rw [if_neg c8] at H
      exact absurd H (by simp)
     rw [if_neg c7] at H
     have As := decide_eq_false c7
     clear c7
     obtain rfl := Option.some.inj H
     have hcv13 := own_string (P := Try.prog) Try.underlying36 Try.underlying5 Try.underlying9 (Kd.own_of_R Ac.out)
     go_wp2
     go_ret
     exact ⟨ze, zw HB⟩
  rw [if_neg c4] at H
  exact absurd H (by simp)
 rw [if_neg c3] at H
 exact absurd H (by simp)

end Go.Proofs.Ytdiecogmaiglaaa.PFnActs
