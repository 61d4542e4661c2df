import Derived.Test.YthngecooaddddaaDoorQFnSetsToldx0
import Derived.Test.YthngecooaddddaaDoorQFnSetsToldx2
import Derived.Test.YthngecooaddddaaDoorQFnSetsToldx4
namespace Go.Proofs.YthngecooaddddaaDoor.PFnSetsTold
open Go.RowKit Go.Proofs.YthngecooaddddaaDoorW.PrintWords Go.Proofs.YthngecooaddddaaDoorW.PrintLast Go.Proofs.YthngecooaddddaaDoorW.PrintMore
attribute [local go_sem] max2_int min2_int max_two min_two max_three min_three max_four min_four   -- for this text's walks alone
set_option linter.unusedVariables false
set_option linter.unusedSimpArgs false

/-! ### spec_l05Draw: function 55 -/
def spec_l05Draw.l0 : Nat → List (S40) → Int → List Int → Int → Int → Option ((List (S40)) × Int × Int)
 | 0, _, _, _, _, _ => none
 | k + 1, x3, x4, x1000, x1001, x1002 => (spec_l01Below.f x1000 x1001 x1002 5).bind fun bt176 => (if x4 < bt176.1 then ((spec_l01Below.f x1000 bt176.2.1 bt176.2.2 14).bind fun bt179 => ((spec_l01Below.f x1000 bt179.2.1 bt179.2.2 4).bind fun bt182 => ((spec_SetAdd.f k x3 (wrap64 (1 + bt179.1)) (wrap64 ((wrap64 (1 + bt179.1)) + bt182.1))).bind fun bt185 => (spec_l05Draw.l0 k bt185.1 (wrap64 (x4 + 1)) x1000 bt182.2.1 bt182.2.2)))) else ((spec_l01Once.f x1000 bt176.2.1 bt176.2.2 10).bind fun bt189 => (if bt189.1 = true then ((spec_SetAdd.f k x3 9998 9999).bind fun bt192 => (some (bt192.1, bt189.2.1, bt189.2.2))) else (some (x3, bt189.2.1, bt189.2.2)))))
def spec_l05Draw.f (k : Nat) (s0_0 : List Int) (s0_1 : Int) (s0_2 : Int) : Option ((List (S40)) × Int × Int) := spec_l05Draw.l0 k (([] : List (S40))) 0 s0_0 s0_1 s0_2
theorem spec_l05Draw.mono_l : ∀ k, (∀ y0 y1 y2 y3 y4, LeO (spec_l05Draw.l0 k y0 y1 y2 y3 y4) (spec_l05Draw.l0 (k + 1) y0 y1 y2 y3 y4))
 | 0 => fun _ _ _ _ _ r h => by simp [spec_l05Draw.l0] at h
 | k + 1 => by
  have ih0 := spec_l05Draw.mono_l k
  ·intro y0 y1 y2 y3 y4
   unfold spec_l05Draw.l0
   repeat' first
   | (with_reducible exact ih0 _ _ _ _ _)
   | (with_reducible exact spec_SetAdd.mono _ _ _ _)
   | (with_reducible exact LeO.refl _)
   | (with_reducible exact LeO.none _)
   | (with_reducible refine LeO.ite ?_ ?_)
   | (with_reducible refine LeO.bind ?_ (fun _ => ?_))
   | exact ih0 _ _ _ _ _
   | exact spec_SetAdd.mono _ _ _ _
   | exact LeO.none _
   | refine LeO.ite ?_ ?_
   | refine LeO.bind ?_ (fun _ => ?_)
theorem spec_l05Draw.mono : ∀ a0 a1 a2 k, LeO (spec_l05Draw.f k a0 a1 a2) (spec_l05Draw.f (k + 1) a0 a1 a2) := by
 intro a0 a1 a2 k
 have ih0 := spec_l05Draw.mono_l k
 unfold spec_l05Draw.f
 repeat' first
   | (with_reducible exact ih0 _ _ _ _ _)
   | (with_reducible exact spec_SetAdd.mono _ _ _ _)
   | (with_reducible exact LeO.refl _)
   | (with_reducible exact LeO.none _)
   | (with_reducible refine LeO.ite ?_ ?_)
   | (with_reducible refine LeO.bind ?_ (fun _ => ?_))
   | exact ih0 _ _ _ _ _
   | exact spec_SetAdd.mono _ _ _ _
   | exact LeO.none _
   | refine LeO.ite ?_ ?_
   | refine LeO.bind ?_ (fun _ => ?_)
set_option maxHeartbeats 8000000 in
set_option maxRecDepth 100000 in
theorem spec_l05Draw.calls (k : Nat) (g : Nat) (s0_0 : List Int) (s0_1 : Int) (s0_2 : Int) (r1 : List (S40)) (r2 : Int) (r3 : Int) (w0 w : World) (hI : IsS78 w0 w g s0_0 s0_1 s0_2) (hB : Below w0.heap.size w0 w) (h : spec_l05Draw.f k s0_0 s0_1 s0_2 = some (r1, r2, r3)) :
  Calls Tryd.prog 55 #[.pointer (some ⟨g, 0, none⟩)] w fun e w' => ∃ v0_ : Value, e = .returned (v0_) ∧ Kd.R k40 40 w' w.heap.size (fun _ => True) v0_ r1 ∧ IsS78 w0 w' g s0_0 r2 r3 ∧ Below w0.heap.size w0 w' ∧ KeepBut w w' g none := by
 have HI0 := Aside0.mk hI
 have HK := Aside0.mk (KeepBut.refl w g none)
 have HL := Aside0.mk hB.size
 clear hI
 have HW0 := Aside0.mk hB.size
 have HB := Aside0.mk hB
 clear hB
 have H : (spec_l05Draw.l0 k (([] : List (S40))) 0 s0_0 s0_1 s0_2) = some (r1, r2, r3) := h
 clear h
 obtain ⟨y173, hy173⟩ : ∃ y_ : List (S40), y_ = (([] : List (S40))) := ⟨_, rfl⟩
 replace H : (spec_l05Draw.l0 k y173 0 s0_0 s0_1 s0_2) = some (r1, r2, r3) := by first | (rw [hy173]; with_reducible exact H) | (have H2_ := (Option.bind_some _ _).symm.trans H; rw [hy173]; with_reducible exact H2_) | (have H2_ := (Option.bind_some _ _).symm.trans H; with_reducible exact H2_) | with_reducible exact H | (rw [hy173]; exact H) | exact H
 have Ny173 := Aside0.mk hy173
 clear hy173
 have H' := Aside0.mk H
 clear H
 go_enter Tryd.func55, Tryd.ntmps55
 go_wp2_with (first | ((with_reducible refine gate_dst (N := 6) rfl ?_); refine Kd.R_lit k40 _ 40 ?hg (N := 6) ?hd (xs := ([] : List (S40))) (inner := []) (ok := fun _ => True) (okp := fun _ => True) ?hr ?hp (fun _ hk => hk) trivial (Below.refl _ _) (Nat.le_refl _) (by simp) ?_; (case hd => rfl); (case hg => rfl); (case hr => first | (go_simp; done) | (go_simp; rfl)); (case hp => exact (Reps.none _ _)); intro v174 w2 ho3 hb hg_ hnew_; clear hg_ hnew_; (first | rw [← Ny173.out] at ho3 | (simp only [Int.reduceToNat] at ho3; rw [← Ny173.out] at ho3)); have HO175 := Aside0.mk (Kd.R_lower ho3 (keep_size (w := w) (g := g) (row := none) (by repeat (first | (with_reducible first | exact HK.out | apply KeepBut.set_ | apply keep_drewN | apply keep_drew | apply keep_alloc) | exact HK.out)))); replace HK := Aside0.mk (KeepBut.trans (by repeat (first | (with_reducible first | exact HK.out | apply KeepBut.set_ | apply keep_drewN | apply keep_drew | apply keep_alloc) | exact HK.out)) (KeepBut.of_below hb g none) (.inl rfl)); replace HB := ys HB hb; replace HI0 := Aside0.mk (IsS78.below (yI HI0) hb); clear hb ho3))
 go_loopg [3, 4] k (fun kq v3 v4 w' => ∃ (x3_1 : List (S40)) (x4_1 : Int) (x1001_1 : Int) (x1002_1 : Int), v4 = .int .i64 x4_1 ∧ Aside0 (spec_l05Draw.l0 kq x3_1 x4_1 s0_0 x1001_1 x1002_1 = some (r1, r2, r3)) ∧ Aside0 (kq ≤ k) ∧ Aside0 (Kd.R k40 40 w' w.heap.size (fun _ => True) v3 x3_1) ∧ Aside0 (IsS78 w0 w' g s0_0 x1001_1 x1002_1) ∧ Aside0 (KeepBut w w' g none) ∧ Aside0 (Below w0.heap.size w0 w'))
 case atStart => exact ⟨(y173), (0), (s0_1), (s0_2), zf, H', ⟨Nat.le_refl _⟩, ⟨zo HO175.out⟩, ⟨yI HI0⟩, ⟨by repeat (first | (with_reducible first | exact HK.out | apply KeepBut.set_ | apply keep_drewN | apply keep_drew | apply keep_alloc) | exact HK.out)⟩, ⟨yw HB⟩⟩
 case round =>
  clear H'
  try clear p2
  obtain ⟨x3_1, x4_1, x1001_1, x1002_1, rfl, HA, HK1, HO_3, HI0, HK, HB⟩ := hrel
  cases gk with
  | zero => exact absurd HA.out (by simp [spec_l05Draw.l0])
  | succ k1 =>
   have H := HA.out
   clear HA
   simp only [spec_l05Draw.l0] at H
   replace H := Option.bind_eq_some_iff.mp H
   obtain ⟨⟨t176, t177, t178⟩, A40, H⟩ := H
   replace H : (if x4_1 < t176 then ((spec_l01Below.f s0_0 t177 t178 14).bind fun bt179 => ((spec_l01Below.f s0_0 bt179.2.1 bt179.2.2 4).bind fun bt182 => ((spec_SetAdd.f k1 x3_1 (wrap64 (1 + bt179.1)) (wrap64 ((wrap64 (1 + bt179.1)) + bt182.1))).bind fun bt185 => (spec_l05Draw.l0 k1 bt185.1 (wrap64 (x4_1 + 1)) s0_0 bt182.2.1 bt182.2.2)))) else ((spec_l01Once.f s0_0 t177 t178 10).bind fun bt189 => (if bt189.1 = true then ((spec_SetAdd.f k1 x3_1 9998 9999).bind fun bt192 => (some (bt192.1, bt189.2.1, bt189.2.2))) else (some (x3_1, bt189.2.1, bt189.2.2))))) = some (r1, r2, r3) := H
   have A4 := Aside0.mk A40
   clear A40
   by_cases c5 : x4_1 < t176
   ·rw [if_pos c5] at H
    have c5b0 : decide (x4_1 < t176) = true := decide_eq_true c5
    clear c5
    replace H := Option.bind_eq_some_iff.mp H
    obtain ⟨⟨t179, t180, t181⟩, A60, H⟩ := H
    replace H : ((spec_l01Below.f s0_0 t180 t181 4).bind fun bt182 => ((spec_SetAdd.f k1 x3_1 (wrap64 (1 + t179)) (wrap64 ((wrap64 (1 + t179)) + bt182.1))).bind fun bt185 => (spec_l05Draw.l0 k1 bt185.1 (wrap64 (x4_1 + 1)) s0_0 bt182.2.1 bt182.2.2))) = some (r1, r2, r3) := H
    have A6 := Aside0.mk A60
    clear A60
    replace H := Option.bind_eq_some_iff.mp H
    obtain ⟨⟨t182, t183, t184⟩, A70, H⟩ := H
    replace H : ((spec_SetAdd.f k1 x3_1 (wrap64 (1 + t179)) (wrap64 ((wrap64 (1 + t179)) + t182))).bind fun bt185 => (spec_l05Draw.l0 k1 bt185.1 (wrap64 (x4_1 + 1)) s0_0 t183 t184)) = some (r1, r2, r3) := H
    have A7 := Aside0.mk A70
    clear A70
    replace H := Option.bind_eq_some_iff.mp H
    obtain ⟨⟨t185, t186⟩, A80, H⟩ := H
    replace H : (spec_l05Draw.l0 k1 t185 (wrap64 (x4_1 + 1)) s0_0 t183 t184) = some (r1, r2, r3) := H
    have A8 := Aside0.mk A80
    clear A80
    have H' := Aside0.mk H
    clear H
    go_wp2_with (first | ((with_reducible refine gate_callee (f := 47) rfl ?_); refine zG (some 9) Tryd.func47 #[.pointer (some ⟨g, 0, none⟩), .int .i64 5] ?_; (with_reducible refine (spec_l01Below.calls g s0_0 x1001_1 x1002_1 5 t176 t177 t178 w0 _ ?side1 ?side2 A4.out).mono ?_); (case side1 => exact yI HI0); (case side2 => exact yw HB); rintro e w9 ⟨rfl, hi, hb, hk⟩; refine ⟨_, rfl, ?_⟩; replace HO_3 := Aside0.mk (Kd.R_mono (Kd.R_keep (IsS78.apart (show IsS78 w0 _ g s0_0 x1001_1 x1002_1 from yI HI0) (zo HO_3.out) (by decide)) hk (fun _ h => h.2)) (fun _ h => h.1)); replace HK := Aside0.mk (KeepBut.trans (by repeat (first | (with_reducible first | exact HK.out | apply KeepBut.set_ | apply keep_drewN | apply keep_drew | apply keep_alloc) | exact HK.out)) hk (.inl rfl)); replace HB := Aside0.mk (hb); replace HI0 := Aside0.mk (hi); clear hi hb hk) | ((with_reducible refine gate_callee (f := 47) rfl ?_); refine zG (some 14) Tryd.func47 #[.pointer (some ⟨g, 0, none⟩), .int .i64 14] ?_; (with_reducible refine (spec_l01Below.calls g s0_0 t177 t178 14 t179 t180 t181 w0 _ ?side1 ?side2 A6.out).mono ?_); (case side1 => exact yI HI0); (case side2 => exact yw HB); rintro e w10 ⟨rfl, hi, hb, hk⟩; refine ⟨_, rfl, ?_⟩; replace HO_3 := Aside0.mk (Kd.R_mono (Kd.R_keep (IsS78.apart (show IsS78 w0 _ g s0_0 t177 t178 from yI HI0) (zo HO_3.out) (by decide)) hk (fun _ h => h.2)) (fun _ h => h.1)); replace HK := Aside0.mk (KeepBut.trans (by repeat (first | (with_reducible first | exact HK.out | apply KeepBut.set_ | apply keep_drewN | apply keep_drew | apply keep_alloc) | exact HK.out)) hk (.inl rfl)); replace HB := Aside0.mk (hb); replace HI0 := Aside0.mk (hi); clear hi hb hk) | ((with_reducible refine gate_callee (f := 47) rfl ?_); refine zG (some 21) Tryd.func47 #[.pointer (some ⟨g, 0, none⟩), .int .i64 4] ?_; (with_reducible refine (spec_l01Below.calls g s0_0 t180 t181 4 t182 t183 t184 w0 _ ?side1 ?side2 A7.out).mono ?_); (case side1 => exact yI HI0); (case side2 => exact yw HB); rintro e w11 ⟨rfl, hi, hb, hk⟩; refine ⟨_, rfl, ?_⟩; replace HO_3 := Aside0.mk (Kd.R_mono (Kd.R_keep (IsS78.apart (show IsS78 w0 _ g s0_0 t180 t181 from yI HI0) (zo HO_3.out) (by decide)) hk (fun _ h => h.2)) (fun _ h => h.1)); replace HK := Aside0.mk (KeepBut.trans (by repeat (first | (with_reducible first | exact HK.out | apply KeepBut.set_ | apply keep_drewN | apply keep_drew | apply keep_alloc) | exact HK.out)) hk (.inl rfl)); replace HB := Aside0.mk (hb); replace HI0 := Aside0.mk (hi); clear hi hb hk; obtain ⟨Ao12, co12, eo12⟩ := Kd.R_slice HO_3.out; subst eo12) | ((with_reducible refine gate_callee (f := 10) rfl ?_); refine zG (some 23) Tryd.func10 #[.slice Ao12 x3_1.length co12, .int .i64 (wrap64 (1 + t179)), .int .i64 (wrap64 ((wrap64 (1 + t179)) + t182))] ?_; (with_reducible refine (spec_SetAdd.calls k1 _ _ x3_1 (wrap64 (1 + t179)) (wrap64 ((wrap64 (1 + t179)) + t182)) t185 t186 _ ?side1 ?side2 A8.out).mono ?_); (case side1 => exact zI (Kd.R_reads' HO_3.out).2.2); (case side2 => exact (Kd.R_reads' HO_3.out).2.1); rintro e w13 ⟨v187, rfl, ho0, hb⟩; refine ⟨_, rfl, ?_⟩; have HO188 := Aside0.mk (Kd.R_lower (Kd.R_new' ho0 (Kd.R_lt (zo HO_3.out))) (keep_size (w := w) (g := g) (row := none) (by repeat (first | (with_reducible first | exact HK.out | apply KeepBut.set_ | apply keep_drewN | apply keep_drew | apply keep_alloc) | exact HK.out)))); replace HO_3 := Aside0.mk (Kd.R_elder' (zo HO_3.out) (Kd.R_base ho0) hb); replace HK := Aside0.mk (KeepBut.trans (by repeat (first | (with_reducible first | exact HK.out | apply KeepBut.set_ | apply keep_drewN | apply keep_drew | apply keep_alloc) | exact HK.out)) (KeepBut.of_below hb g none) (.inl rfl)); replace HB := ys HB hb; replace HI0 := Aside0.mk (IsS78.below (yI HI0) hb); clear ho0 hb))
    go_roundg k1
    case measure => have := HK1.out; omega
    case rel => exact ⟨(t185), (wrap64 (x4_1 + 1)), (t183), (t184), zf, H', ⟨by have := HK1.out; omega⟩, ⟨zo (Kd.R_mono HO188.out (fun _ hk => trivial))⟩, ⟨yI HI0⟩, ⟨by repeat (first | (with_reducible first | exact HK.out | apply KeepBut.set_ | apply keep_drewN | apply keep_drew | apply keep_alloc) | exact HK.out)⟩, ⟨yw HB⟩⟩
   ·rw [if_neg c5] at H
    have c5b0 : decide (x4_1 < t176) = false := decide_eq_false c5
    clear c5
    replace H := Option.bind_eq_some_iff.mp H
    obtain ⟨⟨t189, t190, t191⟩, A140, H⟩ := H
    replace H : (if t189 = true then ((spec_SetAdd.f k1 x3_1 9998 9999).bind fun bt192 => (some (bt192.1, t190, t191))) else (some (x3_1, t190, t191))) = some (r1, r2, r3) := H
    have A14 := Aside0.mk A140
    clear A140
    by_cases c15 : t189 = true
    ·subst c15
     rw [if_pos rfl] at H
     replace H := Option.bind_eq_some_iff.mp H
     obtain ⟨⟨t192, t193⟩, A160, H⟩ := H
     replace H : (some (t192, t190, t191)) = some (r1, r2, r3) := H
     have A16 := Aside0.mk A160
     clear A160
     simp only [Option.some.injEq, Prod.mk.injEq] at H
     obtain ⟨rfl, rfl, rfl⟩ := H
     go_wp2_with (first | ((with_reducible refine gate_callee (f := 47) rfl ?_); refine zG (some 9) Tryd.func47 #[.pointer (some ⟨g, 0, none⟩), .int .i64 5] ?_; (with_reducible refine (spec_l01Below.calls g s0_0 x1001_1 x1002_1 5 t176 t177 t178 w0 _ ?side1 ?side2 A4.out).mono ?_); (case side1 => exact yI HI0); (case side2 => exact yw HB); rintro e w17 ⟨rfl, hi, hb, hk⟩; refine ⟨_, rfl, ?_⟩; replace HO_3 := Aside0.mk (Kd.R_mono (Kd.R_keep (IsS78.apart (show IsS78 w0 _ g s0_0 x1001_1 x1002_1 from yI HI0) (zo HO_3.out) (by decide)) hk (fun _ h => h.2)) (fun _ h => h.1)); replace HK := Aside0.mk (KeepBut.trans (by repeat (first | (with_reducible first | exact HK.out | apply KeepBut.set_ | apply keep_drewN | apply keep_drew | apply keep_alloc) | exact HK.out)) hk (.inl rfl)); replace HB := Aside0.mk (hb); replace HI0 := Aside0.mk (hi); clear hi hb hk) | ((with_reducible refine gate_callee (f := 34) rfl ?_); refine zG (some 27) Tryd.func34 #[.pointer (some ⟨g, 0, none⟩), .int .i64 10] ?_; (with_reducible refine (spec_l01Once.calls g s0_0 t177 t178 10 true t190 t191 w0 _ ?side1 ?side2 A14.out).mono ?_); (case side1 => exact yI HI0); (case side2 => exact yw HB); rintro e w18 ⟨rfl, hi, hb, hk⟩; refine ⟨_, rfl, ?_⟩; replace HO_3 := Aside0.mk (Kd.R_mono (Kd.R_keep (IsS78.apart (show IsS78 w0 _ g s0_0 t177 t178 from yI HI0) (zo HO_3.out) (by decide)) hk (fun _ h => h.2)) (fun _ h => h.1)); replace HK := Aside0.mk (KeepBut.trans (by repeat (first | (with_reducible first | exact HK.out | apply KeepBut.set_ | apply keep_drewN | apply keep_drew | apply keep_alloc) | exact HK.out)) hk (.inl rfl)); replace HB := Aside0.mk (hb); replace HI0 := Aside0.mk (hi); clear hi hb hk; obtain ⟨Ao19, co19, eo19⟩ := Kd.R_slice HO_3.out; subst eo19) | ((with_reducible refine gate_callee (f := 10) rfl ?_); refine zG (some 30) Tryd.func10 #[.slice Ao19 x3_1.length co19, .int .i64 9998, .int .i64 9999] ?_; (with_reducible refine (spec_SetAdd.calls k1 _ _ x3_1 9998 9999 t192 t193 _ ?side1 ?side2 A16.out).mono ?_); (case side1 => exact zI (Kd.R_reads' HO_3.out).2.2); (case side2 => exact (Kd.R_reads' HO_3.out).2.1); rintro e w20 ⟨v194, rfl, ho0, hb⟩; refine ⟨_, rfl, ?_⟩; have HO195 := Aside0.mk (Kd.R_lower (Kd.R_new' ho0 (Kd.R_lt (zo HO_3.out))) (keep_size (w := w) (g := g) (row := none) (by repeat (first | (with_reducible first | exact HK.out | apply KeepBut.set_ | apply keep_drewN | apply keep_drew | apply keep_alloc) | exact HK.out)))); replace HO_3 := Aside0.mk (Kd.R_elder' (zo HO_3.out) (Kd.R_base ho0) hb); replace HK := Aside0.mk (KeepBut.trans (by repeat (first | (with_reducible first | exact HK.out | apply KeepBut.set_ | apply keep_drewN | apply keep_drew | apply keep_alloc) | exact HK.out)) (KeepBut.of_below hb g none) (.inl rfl)); replace HB := ys HB hb; replace HI0 := Aside0.mk (IsS78.below (yI HI0) hb); clear ho0 hb))
     go_ret
     exact ⟨_, ze, zo (Kd.R_mono HO195.out (fun _ hk => trivial)), yI HI0, yw HB, by repeat (first | (with_reducible first | exact HK.out | apply KeepBut.set_ | apply keep_drewN | apply keep_drew | apply keep_alloc) | exact HK.out)⟩
    ·replace c15 := Bool.eq_false_iff.mpr c15
     subst c15
     rw [if_neg (show ¬ (false = true) by decide)] at H
     simp only [Option.some.injEq, Prod.mk.injEq] at H
     obtain ⟨rfl, rfl, rfl⟩ := H
     go_wp2_with (first | ((with_reducible refine gate_callee (f := 47) rfl ?_); refine zG (some 9) Tryd.func47 #[.pointer (some ⟨g, 0, none⟩), .int .i64 5] ?_; (with_reducible refine (spec_l01Below.calls g s0_0 x1001_1 x1002_1 5 t176 t177 t178 w0 _ ?side1 ?side2 A4.out).mono ?_); (case side1 => exact yI HI0); (case side2 => exact yw HB); rintro e w21 ⟨rfl, hi, hb, hk⟩; refine ⟨_, rfl, ?_⟩; replace HO_3 := Aside0.mk (Kd.R_mono (Kd.R_keep (IsS78.apart (show IsS78 w0 _ g s0_0 x1001_1 x1002_1 from yI HI0) (zo HO_3.out) (by decide)) hk (fun _ h => h.2)) (fun _ h => h.1)); replace HK := Aside0.mk (KeepBut.trans (by repeat (first | (with_reducible first | exact HK.out | apply KeepBut.set_ | apply keep_drewN | apply keep_drew | apply keep_alloc) | exact HK.out)) hk (.inl rfl)); replace HB := Aside0.mk (hb); replace HI0 := Aside0.mk (hi); clear hi hb hk) | ((with_reducible refine gate_callee (f := 34) rfl ?_); refine zG (some 27) Tryd.func34 #[.pointer (some ⟨g, 0, none⟩), .int .i64 10] ?_; (with_reducible refine (spec_l01Once.calls g s0_0 t177 t178 10 false t190 t191 w0 _ ?side1 ?side2 A14.out).mono ?_); (case side1 => exact yI HI0); (case side2 => exact yw HB); rintro e w22 ⟨rfl, hi, hb, hk⟩; refine ⟨_, rfl, ?_⟩; replace HO_3 := Aside0.mk (Kd.R_mono (Kd.R_keep (IsS78.apart (show IsS78 w0 _ g s0_0 t177 t178 from yI HI0) (zo HO_3.out) (by decide)) hk (fun _ h => h.2)) (fun _ h => h.1)); replace HK := Aside0.mk (KeepBut.trans (by repeat (first | (with_reducible first | exact HK.out | apply KeepBut.set_ | apply keep_drewN | apply keep_drew | apply keep_alloc) | exact HK.out)) hk (.inl rfl)); replace HB := Aside0.mk (hb); replace HI0 := Aside0.mk (hi); clear hi hb hk))
     go_ret
     exact ⟨_, ze, zo HO_3.out, yI HI0, yw HB, by repeat (first | (with_reducible first | exact HK.out | apply KeepBut.set_ | apply keep_drewN | apply keep_drew | apply keep_alloc) | exact HK.out)⟩

/-! ### spec_l05Any: function 35 -/
def spec_l05Any.l0 : Nat → List (S40) → Int → List Int → Int → Int → Option ((List (S40)) × Int × Int)
 | 0, _, _, _, _, _ => none
 | k + 1, x3, x4, x1000, x1001, x1002 => (spec_l01Below.f x1000 x1001 x1002 2).bind fun bt231 => (if (x3.length : Int) < (wrap64 (40 + bt231.1)) then (if x3.length < 8796093022208 then (spec_l05Any.l0 k (x3 ++ [(⟨wrap64 (100 + (wrap64 (3 * x4))), wrap64 (101 + (wrap64 (3 * x4)))⟩ : S40)]) (wrap64 (x4 + 1)) x1000 bt231.2.1 bt231.2.2) else (none)) else (some (x3, bt231.2.1, bt231.2.2)))
def spec_l05Any.f (k : Nat) (s0_0 : List Int) (s0_1 : Int) (s0_2 : Int) : Option ((List (S40)) × Int × Int) := (some (([] : List (S40)) : List (S40))).bind fun y196 => ((spec_l05Draw.f k s0_0 s0_1 s0_2).bind fun bt199 => (if y196.length + bt199.1.length < 8796093022208 then ((some (y196 ++ bt199.1 : List (S40))).bind fun y204 => ((spec_l01Below.f s0_0 bt199.2.1 bt199.2.2 10).bind fun bt207 => (if bt207.1 = 0 then ((spec_l01PickInt.f s0_0 bt207.2.1 bt207.2.2 (([0, 5, 9998] : List Int))).bind fun bt213 => ((spec_l01PickInt.f s0_0 bt213.2.1 bt213.2.2 (([4, 9999, 10000] : List Int))).bind fun bt219 => (if y204.length < 8796093022208 then (some ((y204 ++ [(⟨bt213.1, bt219.1⟩ : S40)]), bt219.2.1, bt219.2.2)) else (none)))) else (if bt207.1 = 1 then ((some (([(⟨1, 1⟩ : S40)] : List (S40)) : List (S40))).bind fun y225 => (if y225.length + y204.length < 8796093022208 then (some ((y225 ++ y204), bt207.2.1, bt207.2.2)) else (none))) else (if bt207.1 = 2 then (spec_l05Any.l0 k y204 0 s0_0 bt207.2.1 bt207.2.2) else (some (y204, bt207.2.1, bt207.2.2))))))) else (none)))
theorem spec_l05Any.mono_l : ∀ k, (∀ y0 y1 y2 y3 y4, LeO (spec_l05Any.l0 k y0 y1 y2 y3 y4) (spec_l05Any.l0 (k + 1) y0 y1 y2 y3 y4))
 | 0 => fun _ _ _ _ _ r h => by simp [spec_l05Any.l0] at h
 | k + 1 => by
  have ih0 := spec_l05Any.mono_l k
  ·intro y0 y1 y2 y3 y4
   unfold spec_l05Any.l0
   repeat' first
   | (with_reducible exact ih0 _ _ _ _ _)
   | (with_reducible exact spec_l05Draw.mono _ _ _ _)
   | (with_reducible exact LeO.refl _)
   | (with_reducible exact LeO.none _)
   | (with_reducible refine LeO.ite ?_ ?_)
   | (with_reducible refine LeO.bind ?_ (fun _ => ?_))
   | exact ih0 _ _ _ _ _
   | exact spec_l05Draw.mono _ _ _ _
   | exact LeO.none _
   | refine LeO.ite ?_ ?_
   | refine LeO.bind ?_ (fun _ => ?_)
theorem spec_l05Any.mono : ∀ a0 a1 a2 k, LeO (spec_l05Any.f k a0 a1 a2) (spec_l05Any.f (k + 1) a0 a1 a2) := by
 intro a0 a1 a2 k
 have ih0 := spec_l05Any.mono_l k
 unfold spec_l05Any.f
 repeat' first
   | (with_reducible exact ih0 _ _ _ _ _)
   | (with_reducible exact spec_l05Draw.mono _ _ _ _)
   | (with_reducible exact LeO.refl _)
   | (with_reducible exact LeO.none _)
   | (with_reducible refine LeO.ite ?_ ?_)
   | (with_reducible refine LeO.bind ?_ (fun _ => ?_))
   | exact ih0 _ _ _ _ _
   | exact spec_l05Draw.mono _ _ _ _
   | exact LeO.none _
   | refine LeO.ite ?_ ?_
   | refine LeO.bind ?_ (fun _ => ?_)
set_option maxHeartbeats 8000000 in
set_option maxRecDepth 100000 in
theorem spec_l05Any.calls (k : Nat) (g : Nat) (s0_0 : List Int) (s0_1 : Int) (s0_2 : Int) (r1 : List (S40)) (r2 : Int) (r3 : Int) (w0 w : World) (hI : IsS78 w0 w g s0_0 s0_1 s0_2) (hB : Below w0.heap.size w0 w) (h : spec_l05Any.f k s0_0 s0_1 s0_2 = some (r1, r2, r3)) :
  Calls Tryd.prog 35 #[.pointer (some ⟨g, 0, none⟩)] w fun e w' => ∃ v0_ : Value, e = .returned (v0_) ∧ Kd.R k40 40 w' w.heap.size (fun _ => True) v0_ r1 ∧ IsS78 w0 w' g s0_0 r2 r3 ∧ Below w0.heap.size w0 w' ∧ KeepBut w w' g none := by
 have hu40 := Tryd.underlying40
 have HI0 := Aside0.mk hI
 have HK := Aside0.mk (KeepBut.refl w g none)
 have HL := Aside0.mk hB.size
 clear hI
 have HW0 := Aside0.mk hB.size
 have HB := Aside0.mk hB
 clear hB
 have H : ((some (([] : List (S40)) : List (S40))).bind fun y196 => ((spec_l05Draw.f k s0_0 s0_1 s0_2).bind fun bt199 => (if y196.length + bt199.1.length < 8796093022208 then ((some (y196 ++ bt199.1 : List (S40))).bind fun y204 => ((spec_l01Below.f s0_0 bt199.2.1 bt199.2.2 10).bind fun bt207 => (if bt207.1 = 0 then ((spec_l01PickInt.f s0_0 bt207.2.1 bt207.2.2 (([0, 5, 9998] : List Int))).bind fun bt213 => ((spec_l01PickInt.f s0_0 bt213.2.1 bt213.2.2 (([4, 9999, 10000] : List Int))).bind fun bt219 => (if y204.length < 8796093022208 then (some ((y204 ++ [(⟨bt213.1, bt219.1⟩ : S40)]), bt219.2.1, bt219.2.2)) else (none)))) else (if bt207.1 = 1 then ((some (([(⟨1, 1⟩ : S40)] : List (S40)) : List (S40))).bind fun y225 => (if y225.length + y204.length < 8796093022208 then (some ((y225 ++ y204), bt207.2.1, bt207.2.2)) else (none))) else (if bt207.1 = 2 then (spec_l05Any.l0 k y204 0 s0_0 bt207.2.1 bt207.2.2) else (some (y204, bt207.2.1, bt207.2.2))))))) else (none)))) = some (r1, r2, r3) := h
 clear h
 obtain ⟨y196, hy196⟩ : ∃ y_ : List (S40), y_ = (([] : List (S40))) := ⟨_, rfl⟩
 replace H : ((spec_l05Draw.f k s0_0 s0_1 s0_2).bind fun bt199 => (if y196.length + bt199.1.length < 8796093022208 then ((some (y196 ++ bt199.1 : List (S40))).bind fun y204 => ((spec_l01Below.f s0_0 bt199.2.1 bt199.2.2 10).bind fun bt207 => (if bt207.1 = 0 then ((spec_l01PickInt.f s0_0 bt207.2.1 bt207.2.2 (([0, 5, 9998] : List Int))).bind fun bt213 => ((spec_l01PickInt.f s0_0 bt213.2.1 bt213.2.2 (([4, 9999, 10000] : List Int))).bind fun bt219 => (if y204.length < 8796093022208 then (some ((y204 ++ [(⟨bt213.1, bt219.1⟩ : S40)]), bt219.2.1, bt219.2.2)) else (none)))) else (if bt207.1 = 1 then ((some (([(⟨1, 1⟩ : S40)] : List (S40)) : List (S40))).bind fun y225 => (if y225.length + y204.length < 8796093022208 then (some ((y225 ++ y204), bt207.2.1, bt207.2.2)) else (none))) else (if bt207.1 = 2 then (spec_l05Any.l0 k y204 0 s0_0 bt207.2.1 bt207.2.2) else (some (y204, bt207.2.1, bt207.2.2))))))) else (none))) = some (r1, r2, r3) := by first | (rw [hy196]; with_reducible exact H) | (have H2_ := (Option.bind_some _ _).symm.trans H; rw [hy196]; with_reducible exact H2_) | (have H2_ := (Option.bind_some _ _).symm.trans H; with_reducible exact H2_) | with_reducible exact H | (rw [hy196]; exact H) | exact H
 have Ny196 := Aside0.mk hy196
 clear hy196
 replace H := Option.bind_eq_some_iff.mp H
 obtain ⟨⟨t199, t202, t203⟩, A20, H⟩ := H
 replace H : (if y196.length + t199.length < 8796093022208 then ((some (y196 ++ t199 : List (S40))).bind fun y204 => ((spec_l01Below.f s0_0 t202 t203 10).bind fun bt207 => (if bt207.1 = 0 then ((spec_l01PickInt.f s0_0 bt207.2.1 bt207.2.2 (([0, 5, 9998] : List Int))).bind fun bt213 => ((spec_l01PickInt.f s0_0 bt213.2.1 bt213.2.2 (([4, 9999, 10000] : List Int))).bind fun bt219 => (if y204.length < 8796093022208 then (some ((y204 ++ [(⟨bt213.1, bt219.1⟩ : S40)]), bt219.2.1, bt219.2.2)) else (none)))) else (if bt207.1 = 1 then ((some (([(⟨1, 1⟩ : S40)] : List (S40)) : List (S40))).bind fun y225 => (if y225.length + y204.length < 8796093022208 then (some ((y225 ++ y204), bt207.2.1, bt207.2.2)) else (none))) else (if bt207.1 = 2 then (spec_l05Any.l0 k y204 0 s0_0 bt207.2.1 bt207.2.2) else (some (y204, bt207.2.1, bt207.2.2))))))) else (none)) = some (r1, r2, r3) := H
 have A2 := Aside0.mk A20
 clear A20
 by_cases c3 : y196.length + t199.length < 8796093022208
 ·rw [if_pos c3] at H
  have LMc3 := Aside0.mk c3
  clear c3
  obtain ⟨y204, hy204⟩ : ∃ y_ : List (S40), y_ = (y196 ++ t199) := ⟨_, rfl⟩
  replace H : ((spec_l01Below.f s0_0 t202 t203 10).bind fun bt207 => (if bt207.1 = 0 then ((spec_l01PickInt.f s0_0 bt207.2.1 bt207.2.2 (([0, 5, 9998] : List Int))).bind fun bt213 => ((spec_l01PickInt.f s0_0 bt213.2.1 bt213.2.2 (([4, 9999, 10000] : List Int))).bind fun bt219 => (if y204.length < 8796093022208 then (some ((y204 ++ [(⟨bt213.1, bt219.1⟩ : S40)]), bt219.2.1, bt219.2.2)) else (none)))) else (if bt207.1 = 1 then ((some (([(⟨1, 1⟩ : S40)] : List (S40)) : List (S40))).bind fun y225 => (if y225.length + y204.length < 8796093022208 then (some ((y225 ++ y204), bt207.2.1, bt207.2.2)) else (none))) else (if bt207.1 = 2 then (spec_l05Any.l0 k y204 0 s0_0 bt207.2.1 bt207.2.2) else (some (y204, bt207.2.1, bt207.2.2)))))) = some (r1, r2, r3) := by first | (rw [hy204]; with_reducible exact H) | (have H2_ := (Option.bind_some _ _).symm.trans H; rw [hy204]; with_reducible exact H2_) | (have H2_ := (Option.bind_some _ _).symm.trans H; with_reducible exact H2_) | with_reducible exact H | (rw [hy204]; exact H) | exact H
  have Ny204 := Aside0.mk hy204
  clear hy204
  replace H := Option.bind_eq_some_iff.mp H
  obtain ⟨⟨t207, t208, t209⟩, A40, H⟩ := H
  replace H : (if t207 = 0 then ((spec_l01PickInt.f s0_0 t208 t209 (([0, 5, 9998] : List Int))).bind fun bt213 => ((spec_l01PickInt.f s0_0 bt213.2.1 bt213.2.2 (([4, 9999, 10000] : List Int))).bind fun bt219 => (if y204.length < 8796093022208 then (some ((y204 ++ [(⟨bt213.1, bt219.1⟩ : S40)]), bt219.2.1, bt219.2.2)) else (none)))) else (if t207 = 1 then ((some (([(⟨1, 1⟩ : S40)] : List (S40)) : List (S40))).bind fun y225 => (if y225.length + y204.length < 8796093022208 then (some ((y225 ++ y204), t208, t209)) else (none))) else (if t207 = 2 then (spec_l05Any.l0 k y204 0 s0_0 t208 t209) else (some (y204, t208, t209))))) = some (r1, r2, r3) := H
  have A4 := Aside0.mk A40
  clear A40
  by_cases c5 : t207 = 0
  ·rw [if_pos c5] at H
   have c5b0 : (t207 == 0) = true := beq_iff_eq.mpr c5
   have c5b1 : (t207 != 0) = false := bne_eq_false_iff_eq.mpr c5
   clear c5
   obtain ⟨y210, hy210⟩ : ∃ y_ : List Int, y_ = (([0, 5, 9998] : List Int)) := ⟨_, rfl⟩
   replace H : ((spec_l01PickInt.f s0_0 t208 t209 y210).bind fun bt213 => ((spec_l01PickInt.f s0_0 bt213.2.1 bt213.2.2 (([4, 9999, 10000] : List Int))).bind fun bt219 => (if y204.length < 8796093022208 then (some ((y204 ++ [(⟨bt213.1, bt219.1⟩ : S40)]), bt219.2.1, bt219.2.2)) else (none)))) = some (r1, r2, r3) := by first | (rw [hy210]; with_reducible exact H) | (have H2_ := (Option.bind_some _ _).symm.trans H; rw [hy210]; with_reducible exact H2_) | (have H2_ := (Option.bind_some _ _).symm.trans H; with_reducible exact H2_) | with_reducible exact H | (rw [hy210]; exact H) | exact H
   have Ny210 := Aside0.mk hy210
   clear hy210
   replace H := Option.bind_eq_some_iff.mp H
   obtain ⟨⟨t213, t214, t215⟩, A60, H⟩ := H
   replace H : ((spec_l01PickInt.f s0_0 t214 t215 (([4, 9999, 10000] : List Int))).bind fun bt219 => (if y204.length < 8796093022208 then (some ((y204 ++ [(⟨t213, bt219.1⟩ : S40)]), bt219.2.1, bt219.2.2)) else (none))) = some (r1, r2, r3) := H
   have A6 := Aside0.mk A60
   clear A60
   obtain ⟨y216, hy216⟩ : ∃ y_ : List Int, y_ = (([4, 9999, 10000] : List Int)) := ⟨_, rfl⟩
   replace H : ((spec_l01PickInt.f s0_0 t214 t215 y216).bind fun bt219 => (if y204.length < 8796093022208 then (some ((y204 ++ [(⟨t213, bt219.1⟩ : S40)]), bt219.2.1, bt219.2.2)) else (none))) = some (r1, r2, r3) := by first | (rw [hy216]; with_reducible exact H) | (have H2_ := (Option.bind_some _ _).symm.trans H; rw [hy216]; with_reducible exact H2_) | (have H2_ := (Option.bind_some _ _).symm.trans H; with_reducible exact H2_) | with_reducible exact H | (rw [hy216]; exact H) | exact H
   have Ny216 := Aside0.mk hy216
   clear hy216
   replace H := Option.bind_eq_some_iff.mp H
   obtain ⟨⟨t219, t220, t221⟩, A70, H⟩ := H
   replace H : (if y204.length < 8796093022208 then (some ((y204 ++ [(⟨t213, t219⟩ : S40)]), t220, t221)) else (none)) = some (r1, r2, r3) := H
   have A7 := Aside0.mk A70
   clear A70
   by_cases c8 : y204.length < 8796093022208
   ·rw [if_pos c8] at H
    have LMc8 := Aside0.mk c8
    clear c8
    obtain ⟨y222, hy222⟩ : ∃ y_ : List (S40), y_ = (y204 ++ [(⟨t213, t219⟩ : S40)]) := ⟨_, rfl⟩
    replace H : (some (y222, t220, t221)) = some (r1, r2, r3) := by first | (rw [hy222]; with_reducible exact H) | (have H2_ := (Option.bind_some _ _).symm.trans H; rw [hy222]; with_reducible exact H2_) | (have H2_ := (Option.bind_some _ _).symm.trans H; with_reducible exact H2_) | with_reducible exact H | (rw [hy222]; exact H) | exact H
    have Ny222 := Aside0.mk hy222
    clear hy222
    simp only [Option.some.injEq, Prod.mk.injEq] at H
    obtain ⟨rfl, rfl, rfl⟩ := H
    go_enter Tryd.func35, Tryd.ntmps35
    go_wp2_with (first | ((with_reducible refine gate_dst (N := 5) rfl ?_); refine Kd.R_lit k40 _ 40 ?hg (N := 5) ?hd (xs := ([] : List (S40))) (inner := []) (ok := fun _ => True) (okp := fun _ => True) ?hr ?hp (fun _ hk => hk) trivial (Below.refl _ _) (Nat.le_refl _) (by simp) ?_; (case hd => rfl); (case hg => rfl); (case hr => first | (go_simp; done) | (go_simp; rfl)); (case hp => exact (Reps.none _ _)); intro v197 w9 ho10 hb hg_ hnew_; clear hg_ hnew_; (first | rw [← Ny196.out] at ho10 | (simp only [Int.reduceToNat] at ho10; rw [← Ny196.out] at ho10)); have HO198 := Aside0.mk (Kd.R_lower ho10 (keep_size (w := w) (g := g) (row := none) (by repeat (first | (with_reducible first | exact HK.out | apply KeepBut.set_ | apply keep_drewN | apply keep_drew | apply keep_alloc) | exact HK.out)))); replace HK := Aside0.mk (KeepBut.trans (by repeat (first | (with_reducible first | exact HK.out | apply KeepBut.set_ | apply keep_drewN | apply keep_drew | apply keep_alloc) | exact HK.out)) (KeepBut.of_below hb g none) (.inl rfl)); replace HB := ys HB hb; replace HI0 := Aside0.mk (IsS78.below (yI HI0) hb); clear hb ho10) | ((with_reducible refine gate_callee (f := 55) rfl ?_); refine zG (some 7) Tryd.func55 #[.pointer (some ⟨g, 0, none⟩)] ?_; (with_reducible refine (spec_l05Draw.calls k g s0_0 s0_1 s0_2 t199 t202 t203 w0 _ ?side1 ?side2 A2.out).mono ?_); (case side1 => exact yI HI0); (case side2 => exact yw HB); rintro e w11 ⟨v200, rfl, ho0, hi, hb, hk⟩; refine ⟨_, rfl, ?_⟩; have HO201 := Aside0.mk (Kd.R_lower (Kd.R_new' ho0 (Kd.R_lt (zo HO198.out))) (keep_size (w := w) (g := g) (row := none) (by repeat (first | (with_reducible first | exact HK.out | apply KeepBut.set_ | apply keep_drewN | apply keep_drew | apply keep_alloc) | exact HK.out)))); replace HO198 := Aside0.mk (Kd.R_mono (Kd.R_told (Kd.R_oldK (IsS78.apart (show IsS78 w0 _ g s0_0 s0_1 s0_2 from yI HI0) (zo HO198.out) (by decide)) hk) (Kd.R_base ho0)) (fun _ h_ => h_.1)); replace HK := Aside0.mk (KeepBut.trans (by repeat (first | (with_reducible first | exact HK.out | apply KeepBut.set_ | apply keep_drewN | apply keep_drew | apply keep_alloc) | exact HK.out)) hk (.inl rfl)); replace HB := Aside0.mk (hb); replace HI0 := Aside0.mk (hi); clear ho0 hi hb hk; obtain ⟨Ao13, co13, eo13⟩ := Kd.R_slice HO201.out; subst eo13) | ((with_reducible refine gate_builtin (b := .append) (xs := #[.tmp 5, .tmp 7]) rfl ?_); at_builtin; refine Kd.R_append_rows k40 w.heap.size rfl (.tmp 5) (.tmp 7) 24 40 (.agg #[(.int .i64 0), (.int .i64 0)]) 16 rfl Tryd.underlying24 info40 rfl (by decide) (by omega) v197 y196 t199 _ _ _ (fun k_ => some k_ ≠ (.slice Ao13 t199.length co13 : Value).ownBlock) (fun _ => False) rfl rfl ?aO ?aR (fun _ _ h => h) (fun _ h => h.elim) ?aF (Below.refl _ _) ?aS ?aL ?_; (case aR => exact zI (Kd.R_reads' HO201.out).2.2); (case aF => exact (fun k_ hk => Kd.fresh' (Kd.R_lt (zo HO201.out)) k_ hk)); (case aO => exact (zo (Kd.R_mono HO198.out (fun _ hk => hk.2)))); (case aS => exact (keep_size (w := w) (g := g) (row := none) (by repeat (first | (with_reducible first | exact HK.out | apply KeepBut.set_ | apply keep_drewN | apply keep_drew | apply keep_alloc) | exact HK.out)))); (case aL => have := LMc3.out; omega); intro v205 w12 ho hb hg hat; rw [← Ny204.out] at ho; replace HO201 := Aside0.mk (Kd.R_after (ok := (fun _ => True)) (zo HO201.out) hg hat); replace HB := Aside0.mk (below_weaken (yw HB) HL.out hb); replace HI0 := Aside0.mk (IsS78.grown (yI HI0) hg (IsS78.own_ne HI0.out HO198.out (by decide))); replace HK := Aside0.mk (KeepBut.trans (by repeat (first | (with_reducible first | exact HK.out | apply KeepBut.set_ | apply keep_drewN | apply keep_drew | apply keep_alloc) | exact HK.out)) (KeepBut.of_grown hg g) (Kd.R_base2 HO198.out)); have HO206 := Aside0.mk (ho); clear HO198; clear ho hb hg hat) | ((with_reducible refine gate_callee (f := 47) rfl ?_); refine zG (some 10) Tryd.func47 #[.pointer (some ⟨g, 0, none⟩), .int .i64 10] ?_; (with_reducible refine (spec_l01Below.calls g s0_0 t202 t203 10 t207 t208 t209 w0 _ ?side1 ?side2 A4.out).mono ?_); (case side1 => exact yI HI0); (case side2 => exact yw HB); rintro e w14 ⟨rfl, hi, hb, hk⟩; refine ⟨_, rfl, ?_⟩; replace HO201 := Aside0.mk (Kd.R_mono (Kd.R_keep (IsS78.apart (show IsS78 w0 _ g s0_0 t202 t203 from yI HI0) (zo HO201.out) (by decide)) hk (fun _ h => h.2)) (fun _ h => h.1)); replace HO206 := Aside0.mk (Kd.R_mono (Kd.R_keep (IsS78.apart (show IsS78 w0 _ g s0_0 t202 t203 from yI HI0) (zo HO206.out) (by decide)) hk (fun _ h => h.2)) (fun _ h => h.1)); replace HK := Aside0.mk (KeepBut.trans (by repeat (first | (with_reducible first | exact HK.out | apply KeepBut.set_ | apply keep_drewN | apply keep_drew | apply keep_alloc) | exact HK.out)) hk (.inl rfl)); replace HB := Aside0.mk (hb); replace HI0 := Aside0.mk (hi); clear hi hb hk) | ((with_reducible refine gate_dst (N := 15) rfl ?_); refine Kd.R_lit (Kd.int .i64) _ 3 ?hg (N := 15) ?hd (xs := ([0, 5, 9998] : List Int)) (inner := [.int .i64 0, .int .i64 5, .int .i64 9998]) (ok := fun _ => True) (okp := fun _ => True) ?hr ?hp (fun _ hk => hk) trivial (Below.refl _ _) (Nat.le_refl _) (by simp) ?_; (case hd => rfl); (case hg => rfl); (case hr => first | (go_simp; done) | (go_simp; rfl)); (case hp => exact (Reps.one (show Kd.M (Kd.int .i64) _ _ _ 0 [.int .i64 0] from rfl) (Reps.one (show Kd.M (Kd.int .i64) _ _ _ 5 [.int .i64 5] from rfl) (Reps.one (show Kd.M (Kd.int .i64) _ _ _ 9998 [.int .i64 9998] from rfl) (Reps.none _ _))))); intro v211 w15 ho16 hb hg_ hnew_; clear hg_ hnew_; (first | rw [← Ny210.out] at ho16 | (simp only [Int.reduceToNat] at ho16; rw [← Ny210.out] at ho16)); replace HO201 := Aside0.mk (Kd.R_below (zo HO201.out) hb); replace HO206 := Aside0.mk (Kd.R_below (zo HO206.out) hb); have HO212 := Aside0.mk (Kd.R_lower ho16 (keep_size (w := w) (g := g) (row := none) (by repeat (first | (with_reducible first | exact HK.out | apply KeepBut.set_ | apply keep_drewN | apply keep_drew | apply keep_alloc) | exact HK.out)))); replace HK := Aside0.mk (KeepBut.trans (by repeat (first | (with_reducible first | exact HK.out | apply KeepBut.set_ | apply keep_drewN | apply keep_drew | apply keep_alloc) | exact HK.out)) (KeepBut.of_below hb g none) (.inl rfl)); replace HB := ys HB hb; replace HI0 := Aside0.mk (IsS78.below (yI HI0) hb); clear hb ho16; obtain ⟨Ao17, co17, eo17⟩ := Kd.R_slice HO212.out; subst eo17) | ((with_reducible refine gate_callee (f := 33) rfl ?_); refine zG (some 16) Tryd.func33 #[.pointer (some ⟨g, 0, none⟩), .slice Ao17 y210.length co17] ?_; (with_reducible refine (spec_l01PickInt.calls g s0_0 t208 t209 _ _ y210 t213 t214 t215 w0 _ ?side1 ?side2 ?side3 ?side4 ?side5 A6.out).mono ?_); (case side1 => exact yI HI0); (case side2 => exact yw HB); (case side3 => exact zI (Kd.R_reads' HO212.out).2.2); (case side4 => exact (Kd.R_reads' HO212.out).2.1); (case side5 => exact far_slice (IsS78.own_ne HI0.out HO212.out (by decide))); rintro e w18 ⟨rfl, hi, hb, hk⟩; refine ⟨_, rfl, ?_⟩; replace HO201 := Aside0.mk (Kd.R_mono (Kd.R_keep (IsS78.apart (show IsS78 w0 _ g s0_0 t208 t209 from yI HI0) (zo HO201.out) (by decide)) hk (fun _ h => h.2)) (fun _ h => h.1)); replace HO206 := Aside0.mk (Kd.R_mono (Kd.R_keep (IsS78.apart (show IsS78 w0 _ g s0_0 t208 t209 from yI HI0) (zo HO206.out) (by decide)) hk (fun _ h => h.2)) (fun _ h => h.1)); replace HO212 := Aside0.mk (Kd.R_mono (Kd.R_keep (IsS78.apart (show IsS78 w0 _ g s0_0 t208 t209 from yI HI0) (zo HO212.out) (by decide)) hk (fun _ h => h.2)) (fun _ h => h.1)); replace HK := Aside0.mk (KeepBut.trans (by repeat (first | (with_reducible first | exact HK.out | apply KeepBut.set_ | apply keep_drewN | apply keep_drew | apply keep_alloc) | exact HK.out)) hk (.inl rfl)); replace HB := Aside0.mk (hb); replace HI0 := Aside0.mk (hi); clear hi hb hk) | ((with_reducible refine gate_dst (N := 18) rfl ?_); refine Kd.R_lit (Kd.int .i64) _ 3 ?hg (N := 18) ?hd (xs := ([4, 9999, 10000] : List Int)) (inner := [.int .i64 4, .int .i64 9999, .int .i64 10000]) (ok := fun _ => True) (okp := fun _ => True) ?hr ?hp (fun _ hk => hk) trivial (Below.refl _ _) (Nat.le_refl _) (by simp) ?_; (case hd => rfl); (case hg => rfl); (case hr => first | (go_simp; done) | (go_simp; rfl)); (case hp => exact (Reps.one (show Kd.M (Kd.int .i64) _ _ _ 4 [.int .i64 4] from rfl) (Reps.one (show Kd.M (Kd.int .i64) _ _ _ 9999 [.int .i64 9999] from rfl) (Reps.one (show Kd.M (Kd.int .i64) _ _ _ 10000 [.int .i64 10000] from rfl) (Reps.none _ _))))); intro v217 w19 ho20 hb hg_ hnew_; clear hg_ hnew_; (first | rw [← Ny216.out] at ho20 | (simp only [Int.reduceToNat] at ho20; rw [← Ny216.out] at ho20)); replace HO201 := Aside0.mk (Kd.R_below (zo HO201.out) hb); replace HO206 := Aside0.mk (Kd.R_below (zo HO206.out) hb); have HO218 := Aside0.mk (Kd.R_lower (Kd.R_new' ho20 (Kd.R_lt (zo HO212.out))) (keep_size (w := w) (g := g) (row := none) (by repeat (first | (with_reducible first | exact HK.out | apply KeepBut.set_ | apply keep_drewN | apply keep_drew | apply keep_alloc) | exact HK.out)))); replace HO212 := Aside0.mk (Kd.R_elder' (zo HO212.out) (Kd.R_base ho20) hb); replace HK := Aside0.mk (KeepBut.trans (by repeat (first | (with_reducible first | exact HK.out | apply KeepBut.set_ | apply keep_drewN | apply keep_drew | apply keep_alloc) | exact HK.out)) (KeepBut.of_below hb g none) (.inl rfl)); replace HB := ys HB hb; replace HI0 := Aside0.mk (IsS78.below (yI HI0) hb); clear hb ho20; obtain ⟨Ao21, co21, eo21⟩ := Kd.R_slice HO218.out; subst eo21) | ((with_reducible refine gate_callee (f := 33) rfl ?_); refine zG (some 19) Tryd.func33 #[.pointer (some ⟨g, 0, none⟩), .slice Ao21 y216.length co21] ?_; (with_reducible refine (spec_l01PickInt.calls g s0_0 t214 t215 _ _ y216 t219 t220 t221 w0 _ ?side1 ?side2 ?side3 ?side4 ?side5 A7.out).mono ?_); (case side1 => exact yI HI0); (case side2 => exact yw HB); (case side3 => exact zI (Kd.R_reads' HO218.out).2.2); (case side4 => exact (Kd.R_reads' HO218.out).2.1); (case side5 => exact far_slice (IsS78.own_ne HI0.out HO218.out (by decide))); rintro e w22 ⟨rfl, hi, hb, hk⟩; refine ⟨_, rfl, ?_⟩; replace HO201 := Aside0.mk (Kd.R_mono (Kd.R_keep (IsS78.apart (show IsS78 w0 _ g s0_0 t214 t215 from yI HI0) (zo HO201.out) (by decide)) hk (fun _ h => h.2)) (fun _ h => h.1)); replace HO206 := Aside0.mk (Kd.R_mono (Kd.R_keep (IsS78.apart (show IsS78 w0 _ g s0_0 t214 t215 from yI HI0) (zo HO206.out) (by decide)) hk (fun _ h => h.2)) (fun _ h => h.1)); replace HO212 := Aside0.mk (Kd.R_mono (Kd.R_keep (IsS78.apart (show IsS78 w0 _ g s0_0 t214 t215 from yI HI0) (zo HO212.out) (by decide)) hk (fun _ h => h.2)) (fun _ h => h.1)); replace HO218 := Aside0.mk (Kd.R_mono (Kd.R_keep (IsS78.apart (show IsS78 w0 _ g s0_0 t214 t215 from yI HI0) (zo HO218.out) (by decide)) hk (fun _ h => h.2)) (fun _ h => h.1)); replace HK := Aside0.mk (KeepBut.trans (by repeat (first | (with_reducible first | exact HK.out | apply KeepBut.set_ | apply keep_drewN | apply keep_drew | apply keep_alloc) | exact HK.out)) hk (.inl rfl)); replace HB := Aside0.mk (hb); replace HI0 := Aside0.mk (hi); clear hi hb hk) | ((with_reducible refine gate_builtin (b := .append) (xs := #[.tmp 13, .tmp 21]) rfl ?_); at_builtin; refine Kd.R_append k40 w.heap.size rfl (.tmp 13) (.tmp 21) 24 40 (.agg #[(.int .i64 0), (.int .i64 0)]) 16 rfl Tryd.underlying24 info40 rfl (by decide) (by omega) v205 y204 (⟨t213, t219⟩ : S40) [.int .i64 t213, .int .i64 t219] (fun k_ => some k_ ≠ (.slice Ao13 t199.length co13 : Value).ownBlock) (fun _ => False) rfl rfl ?aP (fun _ hk => hk.elim) ?aF ?aO (Below.refl _ _) ?aS ?aL ?_; (case aP => exact k40_mkM _ _ _ (⟨t213, t219⟩ : S40)); (case aF => exact (fun k_ hk => Kd.fresh' (Kd.R_lt (zo HO201.out)) k_ hk)); (case aO => exact (zo HO206.out)); (case aS => exact (keep_size (w := w) (g := g) (row := none) (by repeat (first | (with_reducible first | exact HK.out | apply KeepBut.set_ | apply keep_drewN | apply keep_drew | apply keep_alloc) | exact HK.out)))); (case aL => have := LMc8.out; omega); intro v223 w23 ho hb hg hat; rw [← Ny222.out] at ho; replace HO201 := Aside0.mk (Kd.R_after (ok := (fun _ => True)) (zo HO201.out) hg hat); replace HO212 := Aside0.mk (Kd.R_over' (zo HO212.out) (Kd.R_typed (zo HO206.out)) (by decide) hg); replace HO218 := Aside0.mk (Kd.R_over' (zo HO218.out) (Kd.R_typed (zo HO206.out)) (by decide) hg); replace HB := Aside0.mk (below_weaken (yw HB) HL.out hb); replace HI0 := Aside0.mk (IsS78.grown (yI HI0) hg (IsS78.own_ne HI0.out HO206.out (by decide))); replace HK := Aside0.mk (KeepBut.trans (by repeat (first | (with_reducible first | exact HK.out | apply KeepBut.set_ | apply keep_drewN | apply keep_drew | apply keep_alloc) | exact HK.out)) (KeepBut.of_grown hg g) (Kd.R_base2 HO206.out)); have HO224 := Aside0.mk (ho); clear HO206; clear ho hb hg hat))
    go_ret
    exact ⟨_, ze, zo (Kd.R_mono HO224.out (fun _ hk => trivial)), yI HI0, yw HB, by repeat (first | (with_reducible first | exact HK.out | apply KeepBut.set_ | apply keep_drewN | apply keep_drew | apply keep_alloc) | exact HK.out)⟩
   ·rw [if_neg c8] at H
    exact absurd H (by simp)
  ·rw [if_neg c5] at H
   have c5b0 : (t207 == 0) = false := beq_eq_false_iff_ne.mpr c5
   have c5b1 : (t207 != 0) = true := bne_iff_ne.mpr c5
   by_cases c24 : t207 = 1
   ·rw [if_pos c24] at H
    have c24b0 : (t207 == 1) = true := beq_iff_eq.mpr c24
    have c24b1 : (t207 != 1) = false := bne_eq_false_iff_eq.mpr c24
    clear c24
    obtain ⟨y225, hy225⟩ : ∃ y_ : List (S40), y_ = (([(⟨1, 1⟩ : S40)] : List (S40))) := ⟨_, rfl⟩
    replace H : (if y225.length + y204.length < 8796093022208 then (some ((y225 ++ y204), t208, t209)) else (none)) = some (r1, r2, r3) := by first | (rw [hy225]; with_reducible exact H) | (have H2_ := (Option.bind_some _ _).symm.trans H; rw [hy225]; with_reducible exact H2_) | (have H2_ := (Option.bind_some _ _).symm.trans H; with_reducible exact H2_) | with_reducible exact H | (rw [hy225]; exact H) | exact H
    have Ny225 := Aside0.mk hy225
    clear hy225
    by_cases c25 : y225.length + y204.length < 8796093022208
    ·rw [if_pos c25] at H
     have LMc25 := Aside0.mk c25
     clear c25
     obtain ⟨y228, hy228⟩ : ∃ y_ : List (S40), y_ = (y225 ++ y204) := ⟨_, rfl⟩
     replace H : (some (y228, t208, t209)) = some (r1, r2, r3) := by first | (rw [hy228]; with_reducible exact H) | (have H2_ := (Option.bind_some _ _).symm.trans H; rw [hy228]; with_reducible exact H2_) | (have H2_ := (Option.bind_some _ _).symm.trans H; with_reducible exact H2_) | with_reducible exact H | (rw [hy228]; exact H) | exact H
     have Ny228 := Aside0.mk hy228
     clear hy228
     simp only [Option.some.injEq, Prod.mk.injEq] at H
     obtain ⟨rfl, rfl, rfl⟩ := H
     go_enter Tryd.func35, Tryd.ntmps35
     go_wp2_with (first | ((with_reducible refine gate_dst (N := 5) rfl ?_); refine Kd.R_lit k40 _ 40 ?hg (N := 5) ?hd (xs := ([] : List (S40))) (inner := []) (ok := fun _ => True) (okp := fun _ => True) ?hr ?hp (fun _ hk => hk) trivial (Below.refl _ _) (Nat.le_refl _) (by simp) ?_; (case hd => rfl); (case hg => rfl); (case hr => first | (go_simp; done) | (go_simp; rfl)); (case hp => exact (Reps.none _ _)); intro v197 w26 ho27 hb hg_ hnew_; clear hg_ hnew_; (first | rw [← Ny196.out] at ho27 | (simp only [Int.reduceToNat] at ho27; rw [← Ny196.out] at ho27)); have HO198 := Aside0.mk (Kd.R_lower ho27 (keep_size (w := w) (g := g) (row := none) (by repeat (first | (with_reducible first | exact HK.out | apply KeepBut.set_ | apply keep_drewN | apply keep_drew | apply keep_alloc) | exact HK.out)))); replace HK := Aside0.mk (KeepBut.trans (by repeat (first | (with_reducible first | exact HK.out | apply KeepBut.set_ | apply keep_drewN | apply keep_drew | apply keep_alloc) | exact HK.out)) (KeepBut.of_below hb g none) (.inl rfl)); replace HB := ys HB hb; replace HI0 := Aside0.mk (IsS78.below (yI HI0) hb); clear hb ho27) | ((with_reducible refine gate_callee (f := 55) rfl ?_); refine zG (some 7) Tryd.func55 #[.pointer (some ⟨g, 0, none⟩)] ?_; (with_reducible refine (spec_l05Draw.calls k g s0_0 s0_1 s0_2 t199 t202 t203 w0 _ ?side1 ?side2 A2.out).mono ?_); (case side1 => exact yI HI0); (case side2 => exact yw HB); rintro e w28 ⟨v200, rfl, ho0, hi, hb, hk⟩; refine ⟨_, rfl, ?_⟩; have HO201 := Aside0.mk (Kd.R_lower (Kd.R_new' ho0 (Kd.R_lt (zo HO198.out))) (keep_size (w := w) (g := g) (row := none) (by repeat (first | (with_reducible first | exact HK.out | apply KeepBut.set_ | apply keep_drewN | apply keep_drew | apply keep_alloc) | exact HK.out)))); replace HO198 := Aside0.mk (Kd.R_mono (Kd.R_told (Kd.R_oldK (IsS78.apart (show IsS78 w0 _ g s0_0 s0_1 s0_2 from yI HI0) (zo HO198.out) (by decide)) hk) (Kd.R_base ho0)) (fun _ h_ => h_.1)); replace HK := Aside0.mk (KeepBut.trans (by repeat (first | (with_reducible first | exact HK.out | apply KeepBut.set_ | apply keep_drewN | apply keep_drew | apply keep_alloc) | exact HK.out)) hk (.inl rfl)); replace HB := Aside0.mk (hb); replace HI0 := Aside0.mk (hi); clear ho0 hi hb hk; obtain ⟨Ao30, co30, eo30⟩ := Kd.R_slice HO201.out; subst eo30) | ((with_reducible refine gate_builtin (b := .append) (xs := #[.tmp 5, .tmp 7]) rfl ?_); at_builtin; refine Kd.R_append_rows k40 w.heap.size rfl (.tmp 5) (.tmp 7) 24 40 (.agg #[(.int .i64 0), (.int .i64 0)]) 16 rfl Tryd.underlying24 info40 rfl (by decide) (by omega) v197 y196 t199 _ _ _ (fun k_ => some k_ ≠ (.slice Ao30 t199.length co30 : Value).ownBlock) (fun _ => False) rfl rfl ?aO ?aR (fun _ _ h => h) (fun _ h => h.elim) ?aF (Below.refl _ _) ?aS ?aL ?_; (case aR => exact zI (Kd.R_reads' HO201.out).2.2); (case aF => exact (fun k_ hk => Kd.fresh' (Kd.R_lt (zo HO201.out)) k_ hk)); (case aO => exact (zo (Kd.R_mono HO198.out (fun _ hk => hk.2)))); (case aS => exact (keep_size (w := w) (g := g) (row := none) (by repeat (first | (with_reducible first | exact HK.out | apply KeepBut.set_ | apply keep_drewN | apply keep_drew | apply keep_alloc) | exact HK.out)))); (case aL => have := LMc3.out; omega); intro v205 w29 ho hb hg hat; rw [← Ny204.out] at ho; replace HO201 := Aside0.mk (Kd.R_after (ok := (fun _ => True)) (zo HO201.out) hg hat); replace HB := Aside0.mk (below_weaken (yw HB) HL.out hb); replace HI0 := Aside0.mk (IsS78.grown (yI HI0) hg (IsS78.own_ne HI0.out HO198.out (by decide))); replace HK := Aside0.mk (KeepBut.trans (by repeat (first | (with_reducible first | exact HK.out | apply KeepBut.set_ | apply keep_drewN | apply keep_drew | apply keep_alloc) | exact HK.out)) (KeepBut.of_grown hg g) (Kd.R_base2 HO198.out)); have HO206 := Aside0.mk (ho); clear HO198; clear ho hb hg hat) | ((with_reducible refine gate_callee (f := 47) rfl ?_); refine zG (some 10) Tryd.func47 #[.pointer (some ⟨g, 0, none⟩), .int .i64 10] ?_; (with_reducible refine (spec_l01Below.calls g s0_0 t202 t203 10 t207 t208 t209 w0 _ ?side1 ?side2 A4.out).mono ?_); (case side1 => exact yI HI0); (case side2 => exact yw HB); rintro e w31 ⟨rfl, hi, hb, hk⟩; refine ⟨_, rfl, ?_⟩; replace HO201 := Aside0.mk (Kd.R_mono (Kd.R_keep (IsS78.apart (show IsS78 w0 _ g s0_0 t202 t203 from yI HI0) (zo HO201.out) (by decide)) hk (fun _ h => h.2)) (fun _ h => h.1)); replace HO206 := Aside0.mk (Kd.R_mono (Kd.R_keep (IsS78.apart (show IsS78 w0 _ g s0_0 t202 t203 from yI HI0) (zo HO206.out) (by decide)) hk (fun _ h => h.2)) (fun _ h => h.1)); replace HK := Aside0.mk (KeepBut.trans (by repeat (first | (with_reducible first | exact HK.out | apply KeepBut.set_ | apply keep_drewN | apply keep_drew | apply keep_alloc) | exact HK.out)) hk (.inl rfl)); replace HB := Aside0.mk (hb); replace HI0 := Aside0.mk (hi); clear hi hb hk) | ((with_reducible refine gate_dst (N := 26) rfl ?_); refine Kd.R_lit k40 _ 40 ?hg (N := 26) ?hd (xs := ([(⟨1, 1⟩ : S40)] : List (S40))) (inner := [.int .i64 1, .int .i64 1]) (ok := fun _ => True) (okp := fun _ => True) ?hr ?hp (fun _ hk => hk) trivial (Below.refl _ _) (Nat.le_refl _) (by simp) ?_; (case hd => rfl); (case hg => rfl); (case hr => first | (go_simp; done) | (go_simp; rfl)); (case hp => exact (Reps.c2 (show Kd.M k40 _ _ _ (⟨1, 1⟩ : S40) [.int .i64 1, .int .i64 1] from (k40_mkM _ _ _ (⟨1, 1⟩ : S40) )) (Reps.none _ _))); intro v226 w32 ho33 hb hg_ hnew_; clear hg_ hnew_; (first | rw [← Ny225.out] at ho33 | (simp only [Int.reduceToNat] at ho33; rw [← Ny225.out] at ho33)); have HO227 := Aside0.mk (Kd.R_lower (Kd.R_new' (Kd.R_new' ho33 (Kd.R_lt (zo HO201.out))) (Kd.R_lt (zo HO206.out))) (keep_size (w := w) (g := g) (row := none) (by repeat (first | (with_reducible first | exact HK.out | apply KeepBut.set_ | apply keep_drewN | apply keep_drew | apply keep_alloc) | exact HK.out)))); replace HO201 := Aside0.mk (Kd.R_elder' (zo HO201.out) (Kd.R_base ho33) hb); replace HO206 := Aside0.mk (Kd.R_elder' (zo HO206.out) (Kd.R_base ho33) hb); replace HK := Aside0.mk (KeepBut.trans (by repeat (first | (with_reducible first | exact HK.out | apply KeepBut.set_ | apply keep_drewN | apply keep_drew | apply keep_alloc) | exact HK.out)) (KeepBut.of_below hb g none) (.inl rfl)); replace HB := ys HB hb; replace HI0 := Aside0.mk (IsS78.below (yI HI0) hb); clear hb ho33; obtain ⟨Ao35, co35, eo35⟩ := Kd.R_slice HO206.out; subst eo35) | ((with_reducible refine gate_builtin (b := .append) (xs := #[.tmp 26, .tmp 27]) rfl ?_); at_builtin; refine Kd.R_append_rows k40 w.heap.size rfl (.tmp 26) (.tmp 27) 24 40 (.agg #[(.int .i64 0), (.int .i64 0)]) 16 rfl Tryd.underlying24 info40 rfl (by decide) (by omega) v226 y225 y204 _ _ _ (fun k_ => some k_ ≠ (.slice Ao30 t199.length co30 : Value).ownBlock ∧ some k_ ≠ (.slice Ao35 y204.length co35 : Value).ownBlock) (fun _ => False) rfl rfl ?aO ?aR (fun _ _ h => h) (fun _ h => h.elim) ?aF (Below.refl _ _) ?aS ?aL ?_; (case aR => exact zI (Kd.R_reads' HO206.out).2.2); (case aF => exact (fun k_ hk => ⟨Kd.fresh' (Kd.R_lt (zo HO201.out)) k_ hk, Kd.fresh' (Kd.R_lt (zo HO206.out)) k_ hk⟩)); (case aO => exact (zo (Kd.R_mono HO227.out (fun _ hk => ⟨hk.1.2, hk.2⟩)))); (case aS => exact (keep_size (w := w) (g := g) (row := none) (by repeat (first | (with_reducible first | exact HK.out | apply KeepBut.set_ | apply keep_drewN | apply keep_drew | apply keep_alloc) | exact HK.out)))); (case aL => have := LMc25.out; omega); intro v229 w34 ho hb hg hat; rw [← Ny228.out] at ho; replace HO201 := Aside0.mk (Kd.R_after (ok := (fun k_ => some k_ ≠ (.slice Ao35 y204.length co35 : Value).ownBlock)) (zo (Kd.R_mono HO201.out (fun _ hk => ⟨hk.1.2, hk.2⟩))) hg hat); replace HO206 := Aside0.mk (Kd.R_after (ok := (fun k_ => some k_ ≠ (.slice Ao30 t199.length co30 : Value).ownBlock)) (zo HO206.out) hg hat); replace HB := Aside0.mk (below_weaken (yw HB) HL.out hb); replace HI0 := Aside0.mk (IsS78.grown (yI HI0) hg (IsS78.own_ne HI0.out HO227.out (by decide))); replace HK := Aside0.mk (KeepBut.trans (by repeat (first | (with_reducible first | exact HK.out | apply KeepBut.set_ | apply keep_drewN | apply keep_drew | apply keep_alloc) | exact HK.out)) (KeepBut.of_grown hg g) (Kd.R_base2 HO227.out)); have HO230 := Aside0.mk (ho); clear HO227; clear ho hb hg hat))
     go_ret
     exact ⟨_, ze, zo (Kd.R_mono HO230.out (fun _ hk => trivial)), yI HI0, yw HB, by repeat (first | (with_reducible first | exact HK.out | apply KeepBut.set_ | apply keep_drewN | apply keep_drew | apply keep_alloc) | exact HK.out)⟩
    ·rw [if_neg c25] at H
     exact absurd H (by simp)
   ·rw [if_neg c24] at H
    have c24b0 : (t207 == 1) = false := beq_eq_false_iff_ne.mpr c24
    have c24b1 : (t207 != 1) = true := bne_iff_ne.mpr c24
    by_cases c36 : t207 = 2
    ·rw [if_pos c36] at H
     have c36b0 : (t207 == 2) = true := beq_iff_eq.mpr c36
     have c36b1 : (t207 != 2) = false := bne_eq_false_iff_eq.mpr c36
     clear c36
     have H' := Aside0.mk H
     clear H
     go_enter Tryd.func35, Tryd.ntmps35
     go_wp2_with (first | ((with_reducible refine gate_dst (N := 5) rfl ?_); refine Kd.R_lit k40 _ 40 ?hg (N := 5) ?hd (xs := ([] : List (S40))) (inner := []) (ok := fun _ => True) (okp := fun _ => True) ?hr ?hp (fun _ hk => hk) trivial (Below.refl _ _) (Nat.le_refl _) (by simp) ?_; (case hd => rfl); (case hg => rfl); (case hr => first | (go_simp; done) | (go_simp; rfl)); (case hp => exact (Reps.none _ _)); intro v197 w37 ho38 hb hg_ hnew_; clear hg_ hnew_; (first | rw [← Ny196.out] at ho38 | (simp only [Int.reduceToNat] at ho38; rw [← Ny196.out] at ho38)); have HO198 := Aside0.mk (Kd.R_lower ho38 (keep_size (w := w) (g := g) (row := none) (by repeat (first | (with_reducible first | exact HK.out | apply KeepBut.set_ | apply keep_drewN | apply keep_drew | apply keep_alloc) | exact HK.out)))); replace HK := Aside0.mk (KeepBut.trans (by repeat (first | (with_reducible first | exact HK.out | apply KeepBut.set_ | apply keep_drewN | apply keep_drew | apply keep_alloc) | exact HK.out)) (KeepBut.of_below hb g none) (.inl rfl)); replace HB := ys HB hb; replace HI0 := Aside0.mk (IsS78.below (yI HI0) hb); clear hb ho38) | ((with_reducible refine gate_callee (f := 55) rfl ?_); refine zG (some 7) Tryd.func55 #[.pointer (some ⟨g, 0, none⟩)] ?_; (with_reducible refine (spec_l05Draw.calls k g s0_0 s0_1 s0_2 t199 t202 t203 w0 _ ?side1 ?side2 A2.out).mono ?_); (case side1 => exact yI HI0); (case side2 => exact yw HB); rintro e w39 ⟨v200, rfl, ho0, hi, hb, hk⟩; refine ⟨_, rfl, ?_⟩; have HO201 := Aside0.mk (Kd.R_lower (Kd.R_new' ho0 (Kd.R_lt (zo HO198.out))) (keep_size (w := w) (g := g) (row := none) (by repeat (first | (with_reducible first | exact HK.out | apply KeepBut.set_ | apply keep_drewN | apply keep_drew | apply keep_alloc) | exact HK.out)))); replace HO198 := Aside0.mk (Kd.R_mono (Kd.R_told (Kd.R_oldK (IsS78.apart (show IsS78 w0 _ g s0_0 s0_1 s0_2 from yI HI0) (zo HO198.out) (by decide)) hk) (Kd.R_base ho0)) (fun _ h_ => h_.1)); replace HK := Aside0.mk (KeepBut.trans (by repeat (first | (with_reducible first | exact HK.out | apply KeepBut.set_ | apply keep_drewN | apply keep_drew | apply keep_alloc) | exact HK.out)) hk (.inl rfl)); replace HB := Aside0.mk (hb); replace HI0 := Aside0.mk (hi); clear ho0 hi hb hk; obtain ⟨Ao41, co41, eo41⟩ := Kd.R_slice HO201.out; subst eo41) | ((with_reducible refine gate_builtin (b := .append) (xs := #[.tmp 5, .tmp 7]) rfl ?_); at_builtin; refine Kd.R_append_rows k40 w.heap.size rfl (.tmp 5) (.tmp 7) 24 40 (.agg #[(.int .i64 0), (.int .i64 0)]) 16 rfl Tryd.underlying24 info40 rfl (by decide) (by omega) v197 y196 t199 _ _ _ (fun k_ => some k_ ≠ (.slice Ao41 t199.length co41 : Value).ownBlock) (fun _ => False) rfl rfl ?aO ?aR (fun _ _ h => h) (fun _ h => h.elim) ?aF (Below.refl _ _) ?aS ?aL ?_; (case aR => exact zI (Kd.R_reads' HO201.out).2.2); (case aF => exact (fun k_ hk => Kd.fresh' (Kd.R_lt (zo HO201.out)) k_ hk)); (case aO => exact (zo (Kd.R_mono HO198.out (fun _ hk => hk.2)))); (case aS => exact (keep_size (w := w) (g := g) (row := none) (by repeat (first | (with_reducible first | exact HK.out | apply KeepBut.set_ | apply keep_drewN | apply keep_drew | apply keep_alloc) | exact HK.out)))); (case aL => have := LMc3.out; omega); intro v205 w40 ho hb hg hat; rw [← Ny204.out] at ho; replace HO201 := Aside0.mk (Kd.R_after (ok := (fun _ => True)) (zo HO201.out) hg hat); replace HB := Aside0.mk (below_weaken (yw HB) HL.out hb); replace HI0 := Aside0.mk (IsS78.grown (yI HI0) hg (IsS78.own_ne HI0.out HO198.out (by decide))); replace HK := Aside0.mk (KeepBut.trans (by repeat (first | (with_reducible first | exact HK.out | apply KeepBut.set_ | apply keep_drewN | apply keep_drew | apply keep_alloc) | exact HK.out)) (KeepBut.of_grown hg g) (Kd.R_base2 HO198.out)); have HO206 := Aside0.mk (ho); clear HO198; clear ho hb hg hat) | ((with_reducible refine gate_callee (f := 47) rfl ?_); refine zG (some 10) Tryd.func47 #[.pointer (some ⟨g, 0, none⟩), .int .i64 10] ?_; (with_reducible refine (spec_l01Below.calls g s0_0 t202 t203 10 t207 t208 t209 w0 _ ?side1 ?side2 A4.out).mono ?_); (case side1 => exact yI HI0); (case side2 => exact yw HB); rintro e w42 ⟨rfl, hi, hb, hk⟩; refine ⟨_, rfl, ?_⟩; replace HO201 := Aside0.mk (Kd.R_mono (Kd.R_keep (IsS78.apart (show IsS78 w0 _ g s0_0 t202 t203 from yI HI0) (zo HO201.out) (by decide)) hk (fun _ h => h.2)) (fun _ h => h.1)); replace HO206 := Aside0.mk (Kd.R_mono (Kd.R_keep (IsS78.apart (show IsS78 w0 _ g s0_0 t202 t203 from yI HI0) (zo HO206.out) (by decide)) hk (fun _ h => h.2)) (fun _ h => h.1)); replace HK := Aside0.mk (KeepBut.trans (by repeat (first | (with_reducible first | exact HK.out | apply KeepBut.set_ | apply keep_drewN | apply keep_drew | apply keep_alloc) | exact HK.out)) hk (.inl rfl)); replace HB := Aside0.mk (hb); replace HI0 := Aside0.mk (hi); clear hi hb hk))
     go_loopg [3, 4] k (fun kq v3 v4 w' => ∃ (x3_1 : List (S40)) (x4_1 : Int) (x1001_1 : Int) (x1002_1 : Int), v4 = .int .i64 x4_1 ∧ Aside0 (spec_l05Any.l0 kq x3_1 x4_1 s0_0 x1001_1 x1002_1 = some (r1, r2, r3)) ∧ Aside0 (kq ≤ k) ∧ Aside0 (Kd.R k40 40 w' w.heap.size (fun _ => True) v3 x3_1) ∧ Aside0 (IsS78 w0 w' g s0_0 x1001_1 x1002_1) ∧ Aside0 (KeepBut w w' g none) ∧ Aside0 (Below w0.heap.size w0 w'))
     case atStart => exact ⟨(y204), (0), (t208), (t209), zf, H', ⟨Nat.le_refl _⟩, ⟨zo (Kd.R_mono HO206.out (fun _ hk => trivial))⟩, ⟨yI HI0⟩, ⟨by repeat (first | (with_reducible first | exact HK.out | apply KeepBut.set_ | apply keep_drewN | apply keep_drew | apply keep_alloc) | exact HK.out)⟩, ⟨yw HB⟩⟩
     case round =>
      clear H'
      try clear c2
      try clear p2
      try clear c3
      try clear c4
      try clear c5
      try clear c5b0
      try clear c5b1
      try clear c8
      try clear c24
      try clear c24b0
      try clear c24b1
      try clear c25
      try clear c33
      try clear c35
      try clear c36
      try clear c36b0
      try clear c36b1
      obtain ⟨x3_1, x4_1, x1001_1, x1002_1, rfl, HA, HK1, HO_3, HI0, HK, HB⟩ := hrel
      cases gk with
      | zero => exact absurd HA.out (by simp [spec_l05Any.l0])
      | succ k1 =>
       have H := HA.out
       clear HA
       simp only [spec_l05Any.l0] at H
       replace H := Option.bind_eq_some_iff.mp H
       obtain ⟨⟨t231, t232, t233⟩, A430, H⟩ := H
       replace H : (if (x3_1.length : Int) < (wrap64 (40 + t231)) then (if x3_1.length < 8796093022208 then (spec_l05Any.l0 k1 (x3_1 ++ [(⟨wrap64 (100 + (wrap64 (3 * x4_1))), wrap64 (101 + (wrap64 (3 * x4_1)))⟩ : S40)]) (wrap64 (x4_1 + 1)) s0_0 t232 t233) else (none)) else (some (x3_1, t232, t233))) = some (r1, r2, r3) := H
       have A43 := Aside0.mk A430
       clear A430
       by_cases c44 : (x3_1.length : Int) < (wrap64 (40 + t231))
       ·rw [if_pos c44] at H
        have c44b0 : decide ((x3_1.length : Int) < (wrap64 (40 + t231))) = true := decide_eq_true c44
        clear c44
        by_cases c45 : x3_1.length < 8796093022208
        ·rw [if_pos c45] at H
         have LMc45 := Aside0.mk c45
         clear c45
         obtain ⟨y234, hy234⟩ : ∃ y_ : List (S40), y_ = (x3_1 ++ [(⟨wrap64 (100 + (wrap64 (3 * x4_1))), wrap64 (101 + (wrap64 (3 * x4_1)))⟩ : S40)]) := ⟨_, rfl⟩
         replace H : (spec_l05Any.l0 k1 y234 (wrap64 (x4_1 + 1)) s0_0 t232 t233) = some (r1, r2, r3) := by first | (rw [hy234]; with_reducible exact H) | (have H2_ := (Option.bind_some _ _).symm.trans H; rw [hy234]; with_reducible exact H2_) | (have H2_ := (Option.bind_some _ _).symm.trans H; with_reducible exact H2_) | with_reducible exact H | (rw [hy234]; exact H) | exact H
         have Ny234 := Aside0.mk hy234
         clear hy234
         have H' := Aside0.mk H
         clear H
         obtain ⟨Ao46, co46, eo46⟩ := Kd.R_slice HO_3.out
         subst eo46
         go_wp2_with (first | ((with_reducible refine gate_callee (f := 47) rfl ?_); refine zG (some 34) Tryd.func47 #[.pointer (some ⟨g, 0, none⟩), .int .i64 2] ?_; (with_reducible refine (spec_l01Below.calls g s0_0 x1001_1 x1002_1 2 t231 t232 t233 w0 _ ?side1 ?side2 A43.out).mono ?_); (case side1 => exact yI HI0); (case side2 => exact yw HB); rintro e w47 ⟨rfl, hi, hb, hk⟩; refine ⟨_, rfl, ?_⟩; replace HO_3 := Aside0.mk (Kd.R_mono (Kd.R_keep (IsS78.apart (show IsS78 w0 _ g s0_0 x1001_1 x1002_1 from yI HI0) (zo HO_3.out) (by decide)) hk (fun _ h => h.2)) (fun _ h => h.1)); replace HK := Aside0.mk (KeepBut.trans (by repeat (first | (with_reducible first | exact HK.out | apply KeepBut.set_ | apply keep_drewN | apply keep_drew | apply keep_alloc) | exact HK.out)) hk (.inl rfl)); replace HB := Aside0.mk (hb); replace HI0 := Aside0.mk (hi); clear hi hb hk) | ((with_reducible refine gate_builtin (b := .append) (xs := #[.tmp 39, .tmp 47]) rfl ?_); at_builtin; refine Kd.R_append k40 w.heap.size rfl (.tmp 39) (.tmp 47) 24 40 (.agg #[(.int .i64 0), (.int .i64 0)]) 16 rfl Tryd.underlying24 info40 rfl (by decide) (by omega) (.slice Ao46 x3_1.length co46) x3_1 (⟨wrap64 (100 + (wrap64 (3 * x4_1))), wrap64 (101 + (wrap64 (3 * x4_1)))⟩ : S40) [.int .i64 (wrap64 (100 + (wrap64 (3 * x4_1)))), .int .i64 (wrap64 (101 + (wrap64 (3 * x4_1))))] (fun _ => True) (fun _ => False) rfl rfl ?aP (fun _ hk => hk.elim) ?aF ?aO (Below.refl _ _) ?aS ?aL ?_; (case aP => exact k40_mkM _ _ _ (⟨wrap64 (100 + (wrap64 (3 * x4_1))), wrap64 (101 + (wrap64 (3 * x4_1)))⟩ : S40)); (case aF => exact (fun _ _ => trivial)); (case aO => exact (zo HO_3.out)); (case aS => exact (keep_size (w := w) (g := g) (row := none) (by repeat (first | (with_reducible first | exact HK.out | apply KeepBut.set_ | apply keep_drewN | apply keep_drew | apply keep_alloc) | exact HK.out)))); (case aL => have := LMc45.out; omega); intro v235 w48 ho hb hg hat; rw [← Ny234.out] at ho; replace HB := Aside0.mk (below_weaken (yw HB) HL.out hb); replace HI0 := Aside0.mk (IsS78.grown (yI HI0) hg (IsS78.own_ne HI0.out HO_3.out (by decide))); replace HK := Aside0.mk (KeepBut.trans (by repeat (first | (with_reducible first | exact HK.out | apply KeepBut.set_ | apply keep_drewN | apply keep_drew | apply keep_alloc) | exact HK.out)) (KeepBut.of_grown hg g) (Kd.R_base2 HO_3.out)); have HO236 := Aside0.mk (ho); clear HO_3; clear ho hb hg hat))
         go_roundg k1
         case measure => have := HK1.out; omega
         case rel => exact ⟨(y234), (wrap64 (x4_1 + 1)), (t232), (t233), zf, H', ⟨by have := HK1.out; omega⟩, ⟨zo HO236.out⟩, ⟨yI HI0⟩, ⟨by repeat (first | (with_reducible first | exact HK.out | apply KeepBut.set_ | apply keep_drewN | apply keep_drew | apply keep_alloc) | exact HK.out)⟩, ⟨yw HB⟩⟩
        ·rw [if_neg c45] at H
         exact absurd H (by simp)
       ·rw [if_neg c44] at H
        have c44b0 : decide ((x3_1.length : Int) < (wrap64 (40 + t231))) = false := decide_eq_false c44
        clear c44
        simp only [Option.some.injEq, Prod.mk.injEq] at H
        obtain ⟨rfl, rfl, rfl⟩ := H
        obtain ⟨Ao49, co49, eo49⟩ := Kd.R_slice HO_3.out
        subst eo49
        go_wp2_with (first | ((with_reducible refine gate_callee (f := 47) rfl ?_); refine zG (some 34) Tryd.func47 #[.pointer (some ⟨g, 0, none⟩), .int .i64 2] ?_; (with_reducible refine (spec_l01Below.calls g s0_0 x1001_1 x1002_1 2 t231 t232 t233 w0 _ ?side1 ?side2 A43.out).mono ?_); (case side1 => exact yI HI0); (case side2 => exact yw HB); rintro e w50 ⟨rfl, hi, hb, hk⟩; refine ⟨_, rfl, ?_⟩; replace HO_3 := Aside0.mk (Kd.R_mono (Kd.R_keep (IsS78.apart (show IsS78 w0 _ g s0_0 x1001_1 x1002_1 from yI HI0) (zo HO_3.out) (by decide)) hk (fun _ h => h.2)) (fun _ h => h.1)); replace HK := Aside0.mk (KeepBut.trans (by repeat (first | (with_reducible first | exact HK.out | apply KeepBut.set_ | apply keep_drewN | apply keep_drew | apply keep_alloc) | exact HK.out)) hk (.inl rfl)); replace HB := Aside0.mk (hb); replace HI0 := Aside0.mk (hi); clear hi hb hk))
        go_ret
        exact ⟨_, ze, zo HO_3.out, yI HI0, yw HB, by repeat (first | (with_reducible first | exact HK.out | apply KeepBut.set_ | apply keep_drewN | apply keep_drew | apply keep_alloc) | exact HK.out)⟩
    ·rw [if_neg c36] at H
     have c36b0 : (t207 == 2) = false := beq_eq_false_iff_ne.mpr c36
     have c36b1 : (t207 != 2) = true := bne_iff_ne.mpr c36
     simp only [Option.some.injEq, Prod.mk.injEq] at H
     obtain ⟨rfl, rfl, rfl⟩ := H
     go_enter Tryd.func35, Tryd.ntmps35
     go_wp2_with (first | ((with_reducible refine gate_dst (N := 5) rfl ?_); refine Kd.R_lit k40 _ 40 ?hg (N := 5) ?hd (xs := ([] : List (S40))) (inner := []) (ok := fun _ => True) (okp := fun _ => True) ?hr ?hp (fun _ hk => hk) trivial (Below.refl _ _) (Nat.le_refl _) (by simp) ?_; (case hd => rfl); (case hg => rfl); (case hr => first | (go_simp; done) | (go_simp; rfl)); (case hp => exact (Reps.none _ _)); intro v197 w51 ho52 hb hg_ hnew_; clear hg_ hnew_; (first | rw [← Ny196.out] at ho52 | (simp only [Int.reduceToNat] at ho52; rw [← Ny196.out] at ho52)); have HO198 := Aside0.mk (Kd.R_lower ho52 (keep_size (w := w) (g := g) (row := none) (by repeat (first | (with_reducible first | exact HK.out | apply KeepBut.set_ | apply keep_drewN | apply keep_drew | apply keep_alloc) | exact HK.out)))); replace HK := Aside0.mk (KeepBut.trans (by repeat (first | (with_reducible first | exact HK.out | apply KeepBut.set_ | apply keep_drewN | apply keep_drew | apply keep_alloc) | exact HK.out)) (KeepBut.of_below hb g none) (.inl rfl)); replace HB := ys HB hb; replace HI0 := Aside0.mk (IsS78.below (yI HI0) hb); clear hb ho52) | ((with_reducible refine gate_callee (f := 55) rfl ?_); refine zG (some 7) Tryd.func55 #[.pointer (some ⟨g, 0, none⟩)] ?_; (with_reducible refine (spec_l05Draw.calls k g s0_0 s0_1 s0_2 t199 t202 t203 w0 _ ?side1 ?side2 A2.out).mono ?_); (case side1 => exact yI HI0); (case side2 => exact yw HB); rintro e w53 ⟨v200, rfl, ho0, hi, hb, hk⟩; refine ⟨_, rfl, ?_⟩; have HO201 := Aside0.mk (Kd.R_lower (Kd.R_new' ho0 (Kd.R_lt (zo HO198.out))) (keep_size (w := w) (g := g) (row := none) (by repeat (first | (with_reducible first | exact HK.out | apply KeepBut.set_ | apply keep_drewN | apply keep_drew | apply keep_alloc) | exact HK.out)))); replace HO198 := Aside0.mk (Kd.R_mono (Kd.R_told (Kd.R_oldK (IsS78.apart (show IsS78 w0 _ g s0_0 s0_1 s0_2 from yI HI0) (zo HO198.out) (by decide)) hk) (Kd.R_base ho0)) (fun _ h_ => h_.1)); replace HK := Aside0.mk (KeepBut.trans (by repeat (first | (with_reducible first | exact HK.out | apply KeepBut.set_ | apply keep_drewN | apply keep_drew | apply keep_alloc) | exact HK.out)) hk (.inl rfl)); replace HB := Aside0.mk (hb); replace HI0 := Aside0.mk (hi); clear ho0 hi hb hk; obtain ⟨Ao55, co55, eo55⟩ := Kd.R_slice HO201.out; subst eo55) | ((with_reducible refine gate_builtin (b := .append) (xs := #[.tmp 5, .tmp 7]) rfl ?_); at_builtin; refine Kd.R_append_rows k40 w.heap.size rfl (.tmp 5) (.tmp 7) 24 40 (.agg #[(.int .i64 0), (.int .i64 0)]) 16 rfl Tryd.underlying24 info40 rfl (by decide) (by omega) v197 y196 t199 _ _ _ (fun k_ => some k_ ≠ (.slice Ao55 t199.length co55 : Value).ownBlock) (fun _ => False) rfl rfl ?aO ?aR (fun _ _ h => h) (fun _ h => h.elim) ?aF (Below.refl _ _) ?aS ?aL ?_; (case aR => exact zI (Kd.R_reads' HO201.out).2.2); (case aF => exact (fun k_ hk => Kd.fresh' (Kd.R_lt (zo HO201.out)) k_ hk)); (case aO => exact (zo (Kd.R_mono HO198.out (fun _ hk => hk.2)))); (case aS => exact (keep_size (w := w) (g := g) (row := none) (by repeat (first | (with_reducible first | exact HK.out | apply KeepBut.set_ | apply keep_drewN | apply keep_drew | apply keep_alloc) | exact HK.out)))); (case aL => have := LMc3.out; omega); intro v205 w54 ho hb hg hat; rw [← Ny204.out] at ho; replace HO201 := Aside0.mk (Kd.R_after (ok := (fun _ => True)) (zo HO201.out) hg hat); replace HB := Aside0.mk (below_weaken (yw HB) HL.out hb); replace HI0 := Aside0.mk (IsS78.grown (yI HI0) hg (IsS78.own_ne HI0.out HO198.out (by decide))); replace HK := Aside0.mk (KeepBut.trans (by repeat (first | (with_reducible first | exact HK.out | apply KeepBut.set_ | apply keep_drewN | apply keep_drew | apply keep_alloc) | exact HK.out)) (KeepBut.of_grown hg g) (Kd.R_base2 HO198.out)); have HO206 := Aside0.mk (ho); clear HO198; clear ho hb hg hat) | ((with_reducible refine gate_callee (f := 47) rfl ?_); refine zG (some 10) Tryd.func47 #[.pointer (some ⟨g, 0, none⟩), .int .i64 10] ?_; (with_reducible refine (spec_l01Below.calls g s0_0 t202 t203 10 t207 t208 t209 w0 _ ?side1 ?side2 A4.out).mono ?_); (case side1 => exact yI HI0); (case side2 => exact yw HB); rintro e w56 ⟨rfl, hi, hb, hk⟩; refine ⟨_, rfl, ?_⟩; replace HO201 := Aside0.mk (Kd.R_mono (Kd.R_keep (IsS78.apart (show IsS78 w0 _ g s0_0 t202 t203 from yI HI0) (zo HO201.out) (by decide)) hk (fun _ h => h.2)) (fun _ h => h.1)); replace HO206 := Aside0.mk (Kd.R_mono (Kd.R_keep (IsS78.apart (show IsS78 w0 _ g s0_0 t202 t203 from yI HI0) (zo HO206.out) (by decide)) hk (fun _ h => h.2)) (fun _ h => h.1)); replace HK := Aside0.mk (KeepBut.trans (by repeat (first | (with_reducible first | exact HK.out | apply KeepBut.set_ | apply keep_drewN | apply keep_drew | apply keep_alloc) | exact HK.out)) hk (.inl rfl)); replace HB := Aside0.mk (hb); replace HI0 := Aside0.mk (hi); clear hi hb hk))
     go_ret
     exact ⟨_, ze, zo (Kd.R_mono HO206.out (fun _ hk => trivial)), yI HI0, yw HB, by repeat (first | (with_reducible first | exact HK.out | apply KeepBut.set_ | apply keep_drewN | apply keep_drew | apply keep_alloc) | exact HK.out)⟩
 ·rw [if_neg c3] at H
  exact absurd H (by simp)

/-! ### spec_DrawSetAdd: function 8 -/
def spec_DrawSetAdd.f (k : Nat) (l0 : List Int) : Option ((List (S40)) × Int × Int) := (spec_l01New.f k l0).bind fun bt237 => ((spec_l01PickInt.f bt237.1 bt237.2.1 bt237.2.2 (([0, 1, 3, 8, 9998, 10000, 12] : List Int))).bind fun bt244 => ((spec_l01PickInt.f bt237.1 bt244.2.1 bt244.2.2 (([0, 1, 4, (-1)] : List Int))).bind fun bt250 => ((spec_l01Once.f bt237.1 bt250.2.1 bt250.2.2 10).bind fun bt253 => (if bt253.1 = true then ((spec_l01PickInt.f bt237.1 bt253.2.1 bt253.2.2 (([9223372036854775807, 10000, (-9223372036854775808)] : List Int))).bind fun bt259 => ((spec_l05Any.f k bt237.1 bt259.2.1 bt259.2.2).bind fun bt262 => (some (bt262.1, bt244.1, bt259.1)))) else ((spec_l05Any.f k bt237.1 bt253.2.1 bt253.2.2).bind fun bt267 => (some (bt267.1, bt244.1, wrap64 (bt244.1 + bt250.1))))))))
theorem spec_DrawSetAdd.mono : ∀ a0 k, LeO (spec_DrawSetAdd.f k a0) (spec_DrawSetAdd.f (k + 1) a0) := by
 intro a0 k
 unfold spec_DrawSetAdd.f
 repeat' first
   | (with_reducible exact spec_l01New.mono _ _)
   | (with_reducible exact spec_l05Any.mono _ _ _ _)
   | (with_reducible exact LeO.refl _)
   | (with_reducible exact LeO.none _)
   | (with_reducible refine LeO.ite ?_ ?_)
   | (with_reducible refine LeO.bind ?_ (fun _ => ?_))
   | exact spec_l01New.mono _ _
   | exact spec_l05Any.mono _ _ _ _
   | exact LeO.none _
   | refine LeO.ite ?_ ?_
   | refine LeO.bind ?_ (fun _ => ?_)
set_option maxHeartbeats 8000000 in
set_option maxRecDepth 100000 in
theorem spec_DrawSetAdd.calls (k : Nat) (A0 : Option Addr) (c0 : Nat) (l0 : List Int) (r1 : List (S40)) (r2 : Int) (r3 : Int) (w : World) (hr0 : Kd.C (Kd.int .u8) w A0 l0.length l0) (hc0 : l0.length ≤ c0) (h : spec_DrawSetAdd.f k l0 = some (r1, r2, r3)) :
  Calls Tryd.prog 8 #[.slice A0 l0.length c0] w fun e w' => ∃ v0_ : Value, e = .returned (.tuple #[v0_, .int .i64 r2, .int .i64 r3]) ∧ Kd.R k40 40 w' w.heap.size (fun _ => True) v0_ r1 ∧ Below w.heap.size w w' := by
 have HR0 := Aside0.mk hr0
 have HC0 := Aside0.mk hc0
 clear hr0 hc0
 have HB := Aside0.mk (Below.refl w.heap.size w)
 have H : ((spec_l01New.f k l0).bind fun bt237 => ((spec_l01PickInt.f bt237.1 bt237.2.1 bt237.2.2 (([0, 1, 3, 8, 9998, 10000, 12] : List Int))).bind fun bt244 => ((spec_l01PickInt.f bt237.1 bt244.2.1 bt244.2.2 (([0, 1, 4, (-1)] : List Int))).bind fun bt250 => ((spec_l01Once.f bt237.1 bt250.2.1 bt250.2.2 10).bind fun bt253 => (if bt253.1 = true then ((spec_l01PickInt.f bt237.1 bt253.2.1 bt253.2.2 (([9223372036854775807, 10000, (-9223372036854775808)] : List Int))).bind fun bt259 => ((spec_l05Any.f k bt237.1 bt259.2.1 bt259.2.2).bind fun bt262 => (some (bt262.1, bt244.1, bt259.1)))) else ((spec_l05Any.f k bt237.1 bt253.2.1 bt253.2.2).bind fun bt267 => (some (bt267.1, bt244.1, wrap64 (bt244.1 + bt250.1))))))))) = some (r1, r2, r3) := h
 clear h
 replace H := Option.bind_eq_some_iff.mp H
 obtain ⟨⟨t237, t238, t239⟩, A20, H⟩ := H
 replace H : ((spec_l01PickInt.f t237 t238 t239 (([0, 1, 3, 8, 9998, 10000, 12] : List Int))).bind fun bt244 => ((spec_l01PickInt.f t237 bt244.2.1 bt244.2.2 (([0, 1, 4, (-1)] : List Int))).bind fun bt250 => ((spec_l01Once.f t237 bt250.2.1 bt250.2.2 10).bind fun bt253 => (if bt253.1 = true then ((spec_l01PickInt.f t237 bt253.2.1 bt253.2.2 (([9223372036854775807, 10000, (-9223372036854775808)] : List Int))).bind fun bt259 => ((spec_l05Any.f k t237 bt259.2.1 bt259.2.2).bind fun bt262 => (some (bt262.1, bt244.1, bt259.1)))) else ((spec_l05Any.f k t237 bt253.2.1 bt253.2.2).bind fun bt267 => (some (bt267.1, bt244.1, wrap64 (bt244.1 + bt250.1)))))))) = some (r1, r2, r3) := H
 have A2 := Aside0.mk A20
 clear A20
 obtain ⟨y241, hy241⟩ : ∃ y_ : List Int, y_ = (([0, 1, 3, 8, 9998, 10000, 12] : List Int)) := ⟨_, rfl⟩
 replace H : ((spec_l01PickInt.f t237 t238 t239 y241).bind fun bt244 => ((spec_l01PickInt.f t237 bt244.2.1 bt244.2.2 (([0, 1, 4, (-1)] : List Int))).bind fun bt250 => ((spec_l01Once.f t237 bt250.2.1 bt250.2.2 10).bind fun bt253 => (if bt253.1 = true then ((spec_l01PickInt.f t237 bt253.2.1 bt253.2.2 (([9223372036854775807, 10000, (-9223372036854775808)] : List Int))).bind fun bt259 => ((spec_l05Any.f k t237 bt259.2.1 bt259.2.2).bind fun bt262 => (some (bt262.1, bt244.1, bt259.1)))) else ((spec_l05Any.f k t237 bt253.2.1 bt253.2.2).bind fun bt267 => (some (bt267.1, bt244.1, wrap64 (bt244.1 + bt250.1)))))))) = some (r1, r2, r3) := by first | (rw [hy241]; with_reducible exact H) | (have H2_ := (Option.bind_some _ _).symm.trans H; rw [hy241]; with_reducible exact H2_) | (have H2_ := (Option.bind_some _ _).symm.trans H; with_reducible exact H2_) | with_reducible exact H | (rw [hy241]; exact H) | exact H
 have Ny241 := Aside0.mk hy241
 clear hy241
 replace H := Option.bind_eq_some_iff.mp H
 obtain ⟨⟨t244, t245, t246⟩, A30, H⟩ := H
 replace H : ((spec_l01PickInt.f t237 t245 t246 (([0, 1, 4, (-1)] : List Int))).bind fun bt250 => ((spec_l01Once.f t237 bt250.2.1 bt250.2.2 10).bind fun bt253 => (if bt253.1 = true then ((spec_l01PickInt.f t237 bt253.2.1 bt253.2.2 (([9223372036854775807, 10000, (-9223372036854775808)] : List Int))).bind fun bt259 => ((spec_l05Any.f k t237 bt259.2.1 bt259.2.2).bind fun bt262 => (some (bt262.1, t244, bt259.1)))) else ((spec_l05Any.f k t237 bt253.2.1 bt253.2.2).bind fun bt267 => (some (bt267.1, t244, wrap64 (t244 + bt250.1))))))) = some (r1, r2, r3) := H
 have A3 := Aside0.mk A30
 clear A30
 obtain ⟨y247, hy247⟩ : ∃ y_ : List Int, y_ = (([0, 1, 4, (-1)] : List Int)) := ⟨_, rfl⟩
 replace H : ((spec_l01PickInt.f t237 t245 t246 y247).bind fun bt250 => ((spec_l01Once.f t237 bt250.2.1 bt250.2.2 10).bind fun bt253 => (if bt253.1 = true then ((spec_l01PickInt.f t237 bt253.2.1 bt253.2.2 (([9223372036854775807, 10000, (-9223372036854775808)] : List Int))).bind fun bt259 => ((spec_l05Any.f k t237 bt259.2.1 bt259.2.2).bind fun bt262 => (some (bt262.1, t244, bt259.1)))) else ((spec_l05Any.f k t237 bt253.2.1 bt253.2.2).bind fun bt267 => (some (bt267.1, t244, wrap64 (t244 + bt250.1))))))) = some (r1, r2, r3) := by first | (rw [hy247]; with_reducible exact H) | (have H2_ := (Option.bind_some _ _).symm.trans H; rw [hy247]; with_reducible exact H2_) | (have H2_ := (Option.bind_some _ _).symm.trans H; with_reducible exact H2_) | with_reducible exact H | (rw [hy247]; exact H) | exact H
 have Ny247 := Aside0.mk hy247
 clear hy247
 replace H := Option.bind_eq_some_iff.mp H
 obtain ⟨⟨t250, t251, t252⟩, A40, H⟩ := H
 replace H : ((spec_l01Once.f t237 t251 t252 10).bind fun bt253 => (if bt253.1 = true then ((spec_l01PickInt.f t237 bt253.2.1 bt253.2.2 (([9223372036854775807, 10000, (-9223372036854775808)] : List Int))).bind fun bt259 => ((spec_l05Any.f k t237 bt259.2.1 bt259.2.2).bind fun bt262 => (some (bt262.1, t244, bt259.1)))) else ((spec_l05Any.f k t237 bt253.2.1 bt253.2.2).bind fun bt267 => (some (bt267.1, t244, wrap64 (t244 + t250)))))) = some (r1, r2, r3) := H
 have A4 := Aside0.mk A40
 clear A40
 replace H := Option.bind_eq_some_iff.mp H
 obtain ⟨⟨t253, t254, t255⟩, A50, H⟩ := H
 replace H : (if t253 = true then ((spec_l01PickInt.f t237 t254 t255 (([9223372036854775807, 10000, (-9223372036854775808)] : List Int))).bind fun bt259 => ((spec_l05Any.f k t237 bt259.2.1 bt259.2.2).bind fun bt262 => (some (bt262.1, t244, bt259.1)))) else ((spec_l05Any.f k t237 t254 t255).bind fun bt267 => (some (bt267.1, t244, wrap64 (t244 + t250))))) = some (r1, r2, r3) := H
 have A5 := Aside0.mk A50
 clear A50
 by_cases c6 : t253 = true
 ·subst c6
  rw [if_pos rfl] at H
  obtain ⟨y256, hy256⟩ : ∃ y_ : List Int, y_ = (([9223372036854775807, 10000, (-9223372036854775808)] : List Int)) := ⟨_, rfl⟩
  replace H : ((spec_l01PickInt.f t237 t254 t255 y256).bind fun bt259 => ((spec_l05Any.f k t237 bt259.2.1 bt259.2.2).bind fun bt262 => (some (bt262.1, t244, bt259.1)))) = some (r1, r2, r3) := by first | (rw [hy256]; with_reducible exact H) | (have H2_ := (Option.bind_some _ _).symm.trans H; rw [hy256]; with_reducible exact H2_) | (have H2_ := (Option.bind_some _ _).symm.trans H; with_reducible exact H2_) | with_reducible exact H | (rw [hy256]; exact H) | exact H
  have Ny256 := Aside0.mk hy256
  clear hy256
  replace H := Option.bind_eq_some_iff.mp H
  obtain ⟨⟨t259, t260, t261⟩, A70, H⟩ := H
  replace H : ((spec_l05Any.f k t237 t260 t261).bind fun bt262 => (some (bt262.1, t244, t259))) = some (r1, r2, r3) := H
  have A7 := Aside0.mk A70
  clear A70
  replace H := Option.bind_eq_some_iff.mp H
  obtain ⟨⟨t262, t265, t266⟩, A80, H⟩ := H
  replace H : (some (t262, t244, t259)) = some (r1, r2, r3) := H
  have A8 := Aside0.mk A80
  clear A80
  simp only [Option.some.injEq, Prod.mk.injEq] at H
  obtain ⟨rfl, rfl, rfl⟩ := H
  go_enter Tryd.func8, Tryd.ntmps8
  go_wp2_with (first | ((with_reducible refine gate_callee (f := 32) rfl ?_); refine zG (some 9) Tryd.func32 #[.slice A0 l0.length c0] ?_; (with_reducible refine (spec_l01New.calls k _ _ l0 t237 t238 t239 w _ ?side1 ?side2 ?side3 A2.out).mono ?_); (case side1 => exact zw HB); (case side2 => exact HR0.out); (case side3 => exact HC0.out); rintro e w9 ⟨g240, rfl, hi, hb, hb2⟩; refine ⟨_, rfl, ?_⟩; replace HB := Aside0.mk (hb); have HI240 := Aside0.mk (hi); clear hi hb hb2) | ((with_reducible refine gate_dst (N := 11) rfl ?_); refine Kd.R_lit (Kd.int .i64) _ 3 ?hg (N := 11) ?hd (xs := ([0, 1, 3, 8, 9998, 10000, 12] : List Int)) (inner := [.int .i64 0, .int .i64 1, .int .i64 3, .int .i64 8, .int .i64 9998, .int .i64 10000, .int .i64 12]) (ok := fun _ => True) (okp := fun _ => True) ?hr ?hp (fun _ hk => hk) trivial (Below.refl _ _) (Nat.le_refl _) (by simp) ?_; (case hd => rfl); (case hg => rfl); (case hr => first | (go_simp; done) | (go_simp; rfl)); (case hp => exact (Reps.one (show Kd.M (Kd.int .i64) _ _ _ 0 [.int .i64 0] from rfl) (Reps.one (show Kd.M (Kd.int .i64) _ _ _ 1 [.int .i64 1] from rfl) (Reps.one (show Kd.M (Kd.int .i64) _ _ _ 3 [.int .i64 3] from rfl) (Reps.one (show Kd.M (Kd.int .i64) _ _ _ 8 [.int .i64 8] from rfl) (Reps.one (show Kd.M (Kd.int .i64) _ _ _ 9998 [.int .i64 9998] from rfl) (Reps.one (show Kd.M (Kd.int .i64) _ _ _ 10000 [.int .i64 10000] from rfl) (Reps.one (show Kd.M (Kd.int .i64) _ _ _ 12 [.int .i64 12] from rfl) (Reps.none _ _))))))))); intro v242 w10 ho11 hb hg_ hnew_; clear hg_ hnew_; (first | rw [← Ny241.out] at ho11 | (simp only [Int.reduceToNat] at ho11; rw [← Ny241.out] at ho11)); have HO243 := Aside0.mk (Kd.R_lower ho11 (below_size (yw HB))); replace HB := ys HB hb; replace HI240 := Aside0.mk (IsS78.below (yI HI240) hb); clear hb ho11; obtain ⟨Ao12, co12, eo12⟩ := Kd.R_slice HO243.out; subst eo12) | ((with_reducible refine gate_callee (f := 33) rfl ?_); refine zG (some 12) Tryd.func33 #[.pointer (some ⟨g240, 0, none⟩), .slice Ao12 y241.length co12] ?_; (with_reducible refine (spec_l01PickInt.calls g240 t237 t238 t239 _ _ y241 t244 t245 t246 w _ ?side1 ?side2 ?side3 ?side4 ?side5 A3.out).mono ?_); (case side1 => exact yI HI240); (case side2 => exact yw HB); (case side3 => exact zI (Kd.R_reads' HO243.out).2.2); (case side4 => exact (Kd.R_reads' HO243.out).2.1); (case side5 => exact far_slice (IsS78.own_ne HI240.out HO243.out (by decide))); rintro e w13 ⟨rfl, hi, hb, hk⟩; refine ⟨_, rfl, ?_⟩; replace HO243 := Aside0.mk (Kd.R_mono (Kd.R_keep (IsS78.apart (show IsS78 w _ g240 t237 t238 t239 from yI HI240) (zo HO243.out) (by decide)) hk (fun _ h => h.2)) (fun _ h => h.1)); replace HB := Aside0.mk (hb); replace HI240 := Aside0.mk (hi); clear hi hb hk) | ((with_reducible refine gate_dst (N := 15) rfl ?_); refine Kd.R_lit (Kd.int .i64) _ 3 ?hg (N := 15) ?hd (xs := ([0, 1, 4, (-1)] : List Int)) (inner := [.int .i64 0, .int .i64 1, .int .i64 4, .int .i64 (-1)]) (ok := fun _ => True) (okp := fun _ => True) ?hr ?hp (fun _ hk => hk) trivial (Below.refl _ _) (Nat.le_refl _) (by simp) ?_; (case hd => rfl); (case hg => rfl); (case hr => first | (go_simp; done) | (go_simp; rfl)); (case hp => exact (Reps.one (show Kd.M (Kd.int .i64) _ _ _ 0 [.int .i64 0] from rfl) (Reps.one (show Kd.M (Kd.int .i64) _ _ _ 1 [.int .i64 1] from rfl) (Reps.one (show Kd.M (Kd.int .i64) _ _ _ 4 [.int .i64 4] from rfl) (Reps.one (show Kd.M (Kd.int .i64) _ _ _ (-1) [.int .i64 (-1)] from rfl) (Reps.none _ _)))))); intro v248 w14 ho15 hb hg_ hnew_; clear hg_ hnew_; (first | rw [← Ny247.out] at ho15 | (simp only [Int.reduceToNat] at ho15; rw [← Ny247.out] at ho15)); have HO249 := Aside0.mk (Kd.R_lower (Kd.R_new' ho15 (Kd.R_lt (zo HO243.out))) (below_size (yw HB))); replace HO243 := Aside0.mk (Kd.R_elder' (zo HO243.out) (Kd.R_base ho15) hb); replace HB := ys HB hb; replace HI240 := Aside0.mk (IsS78.below (yI HI240) hb); clear hb ho15; obtain ⟨Ao16, co16, eo16⟩ := Kd.R_slice HO249.out; subst eo16) | ((with_reducible refine gate_callee (f := 33) rfl ?_); refine zG (some 16) Tryd.func33 #[.pointer (some ⟨g240, 0, none⟩), .slice Ao16 y247.length co16] ?_; (with_reducible refine (spec_l01PickInt.calls g240 t237 t245 t246 _ _ y247 t250 t251 t252 w _ ?side1 ?side2 ?side3 ?side4 ?side5 A4.out).mono ?_); (case side1 => exact yI HI240); (case side2 => exact yw HB); (case side3 => exact zI (Kd.R_reads' HO249.out).2.2); (case side4 => exact (Kd.R_reads' HO249.out).2.1); (case side5 => exact far_slice (IsS78.own_ne HI240.out HO249.out (by decide))); rintro e w17 ⟨rfl, hi, hb, hk⟩; refine ⟨_, rfl, ?_⟩; replace HO243 := Aside0.mk (Kd.R_mono (Kd.R_keep (IsS78.apart (show IsS78 w _ g240 t237 t245 t246 from yI HI240) (zo HO243.out) (by decide)) hk (fun _ h => h.2)) (fun _ h => h.1)); replace HO249 := Aside0.mk (Kd.R_mono (Kd.R_keep (IsS78.apart (show IsS78 w _ g240 t237 t245 t246 from yI HI240) (zo HO249.out) (by decide)) hk (fun _ h => h.2)) (fun _ h => h.1)); replace HB := Aside0.mk (hb); replace HI240 := Aside0.mk (hi); clear hi hb hk) | ((with_reducible refine gate_callee (f := 34) rfl ?_); refine zG (some 19) Tryd.func34 #[.pointer (some ⟨g240, 0, none⟩), .int .i64 10] ?_; (with_reducible refine (spec_l01Once.calls g240 t237 t251 t252 10 true t254 t255 w _ ?side1 ?side2 A5.out).mono ?_); (case side1 => exact yI HI240); (case side2 => exact yw HB); rintro e w18 ⟨rfl, hi, hb, hk⟩; refine ⟨_, rfl, ?_⟩; replace HO243 := Aside0.mk (Kd.R_mono (Kd.R_keep (IsS78.apart (show IsS78 w _ g240 t237 t251 t252 from yI HI240) (zo HO243.out) (by decide)) hk (fun _ h => h.2)) (fun _ h => h.1)); replace HO249 := Aside0.mk (Kd.R_mono (Kd.R_keep (IsS78.apart (show IsS78 w _ g240 t237 t251 t252 from yI HI240) (zo HO249.out) (by decide)) hk (fun _ h => h.2)) (fun _ h => h.1)); replace HB := Aside0.mk (hb); replace HI240 := Aside0.mk (hi); clear hi hb hk) | ((with_reducible refine gate_dst (N := 21) rfl ?_); refine Kd.R_lit (Kd.int .i64) _ 3 ?hg (N := 21) ?hd (xs := ([9223372036854775807, 10000, (-9223372036854775808)] : List Int)) (inner := [.int .i64 9223372036854775807, .int .i64 10000, .int .i64 (-9223372036854775808)]) (ok := fun _ => True) (okp := fun _ => True) ?hr ?hp (fun _ hk => hk) trivial (Below.refl _ _) (Nat.le_refl _) (by simp) ?_; (case hd => rfl); (case hg => rfl); (case hr => first | (go_simp; done) | (go_simp; rfl)); (case hp => exact (Reps.one (show Kd.M (Kd.int .i64) _ _ _ 9223372036854775807 [.int .i64 9223372036854775807] from rfl) (Reps.one (show Kd.M (Kd.int .i64) _ _ _ 10000 [.int .i64 10000] from rfl) (Reps.one (show Kd.M (Kd.int .i64) _ _ _ (-9223372036854775808) [.int .i64 (-9223372036854775808)] from rfl) (Reps.none _ _))))); intro v257 w19 ho20 hb hg_ hnew_; clear hg_ hnew_; (first | rw [← Ny256.out] at ho20 | (simp only [Int.reduceToNat] at ho20; rw [← Ny256.out] at ho20)); have HO258 := Aside0.mk (Kd.R_lower (Kd.R_new' (Kd.R_new' ho20 (Kd.R_lt (zo HO243.out))) (Kd.R_lt (zo HO249.out))) (below_size (yw HB))); replace HO243 := Aside0.mk (Kd.R_elder' (zo HO243.out) (Kd.R_base ho20) hb); replace HO249 := Aside0.mk (Kd.R_elder' (zo HO249.out) (Kd.R_base ho20) hb); replace HB := ys HB hb; replace HI240 := Aside0.mk (IsS78.below (yI HI240) hb); clear hb ho20; obtain ⟨Ao21, co21, eo21⟩ := Kd.R_slice HO258.out; subst eo21) | ((with_reducible refine gate_callee (f := 33) rfl ?_); refine zG (some 22) Tryd.func33 #[.pointer (some ⟨g240, 0, none⟩), .slice Ao21 y256.length co21] ?_; (with_reducible refine (spec_l01PickInt.calls g240 t237 t254 t255 _ _ y256 t259 t260 t261 w _ ?side1 ?side2 ?side3 ?side4 ?side5 A7.out).mono ?_); (case side1 => exact yI HI240); (case side2 => exact yw HB); (case side3 => exact zI (Kd.R_reads' HO258.out).2.2); (case side4 => exact (Kd.R_reads' HO258.out).2.1); (case side5 => exact far_slice (IsS78.own_ne HI240.out HO258.out (by decide))); rintro e w22 ⟨rfl, hi, hb, hk⟩; refine ⟨_, rfl, ?_⟩; replace HO243 := Aside0.mk (Kd.R_mono (Kd.R_keep (IsS78.apart (show IsS78 w _ g240 t237 t254 t255 from yI HI240) (zo HO243.out) (by decide)) hk (fun _ h => h.2)) (fun _ h => h.1)); replace HO249 := Aside0.mk (Kd.R_mono (Kd.R_keep (IsS78.apart (show IsS78 w _ g240 t237 t254 t255 from yI HI240) (zo HO249.out) (by decide)) hk (fun _ h => h.2)) (fun _ h => h.1)); replace HO258 := Aside0.mk (Kd.R_mono (Kd.R_keep (IsS78.apart (show IsS78 w _ g240 t237 t254 t255 from yI HI240) (zo HO258.out) (by decide)) hk (fun _ h => h.2)) (fun _ h => h.1)); replace HB := Aside0.mk (hb); replace HI240 := Aside0.mk (hi); clear hi hb hk) | ((with_reducible refine gate_callee (f := 35) rfl ?_); refine zG (some 24) Tryd.func35 #[.pointer (some ⟨g240, 0, none⟩)] ?_; (with_reducible refine (spec_l05Any.calls k g240 t237 t260 t261 t262 t265 t266 w _ ?side1 ?side2 A8.out).mono ?_); (case side1 => exact yI HI240); (case side2 => exact yw HB); rintro e w23 ⟨v263, rfl, ho0, hi, hb, hk⟩; refine ⟨_, rfl, ?_⟩; replace HO243 := Aside0.mk (Kd.R_mono (Kd.R_keep (IsS78.apart (show IsS78 w _ g240 t237 t260 t261 from yI HI240) (zo HO243.out) (by decide)) hk (fun _ h => h.2)) (fun _ h => h.1)); replace HO249 := Aside0.mk (Kd.R_mono (Kd.R_keep (IsS78.apart (show IsS78 w _ g240 t237 t260 t261 from yI HI240) (zo HO249.out) (by decide)) hk (fun _ h => h.2)) (fun _ h => h.1)); replace HO258 := Aside0.mk (Kd.R_mono (Kd.R_keep (IsS78.apart (show IsS78 w _ g240 t237 t260 t261 from yI HI240) (zo HO258.out) (by decide)) hk (fun _ h => h.2)) (fun _ h => h.1)); have HO264 := Aside0.mk (Kd.R_lower ho0 (below_size (yw HB))); replace HB := Aside0.mk (hb); replace HI240 := Aside0.mk (hi); clear ho0 hi hb hk))
  go_ret3
  exact ⟨_, ze, zo HO264.out, yw HB⟩
 ·replace c6 := Bool.eq_false_iff.mpr c6
  subst c6
  rw [if_neg (show ¬ (false = true) by decide)] at H
  replace H := Option.bind_eq_some_iff.mp H
  obtain ⟨⟨t267, t270, t271⟩, A240, H⟩ := H
  replace H : (some (t267, t244, wrap64 (t244 + t250))) = some (r1, r2, r3) := H
  have A24 := Aside0.mk A240
  clear A240
  simp only [Option.some.injEq, Prod.mk.injEq] at H
  obtain ⟨rfl, rfl, rfl⟩ := H
  go_enter Tryd.func8, Tryd.ntmps8
  go_wp2_with (first | ((with_reducible refine gate_callee (f := 32) rfl ?_); refine zG (some 9) Tryd.func32 #[.slice A0 l0.length c0] ?_; (with_reducible refine (spec_l01New.calls k _ _ l0 t237 t238 t239 w _ ?side1 ?side2 ?side3 A2.out).mono ?_); (case side1 => exact zw HB); (case side2 => exact HR0.out); (case side3 => exact HC0.out); rintro e w25 ⟨g240, rfl, hi, hb, hb2⟩; refine ⟨_, rfl, ?_⟩; replace HB := Aside0.mk (hb); have HI240 := Aside0.mk (hi); clear hi hb hb2) | ((with_reducible refine gate_dst (N := 11) rfl ?_); refine Kd.R_lit (Kd.int .i64) _ 3 ?hg (N := 11) ?hd (xs := ([0, 1, 3, 8, 9998, 10000, 12] : List Int)) (inner := [.int .i64 0, .int .i64 1, .int .i64 3, .int .i64 8, .int .i64 9998, .int .i64 10000, .int .i64 12]) (ok := fun _ => True) (okp := fun _ => True) ?hr ?hp (fun _ hk => hk) trivial (Below.refl _ _) (Nat.le_refl _) (by simp) ?_; (case hd => rfl); (case hg => rfl); (case hr => first | (go_simp; done) | (go_simp; rfl)); (case hp => exact (Reps.one (show Kd.M (Kd.int .i64) _ _ _ 0 [.int .i64 0] from rfl) (Reps.one (show Kd.M (Kd.int .i64) _ _ _ 1 [.int .i64 1] from rfl) (Reps.one (show Kd.M (Kd.int .i64) _ _ _ 3 [.int .i64 3] from rfl) (Reps.one (show Kd.M (Kd.int .i64) _ _ _ 8 [.int .i64 8] from rfl) (Reps.one (show Kd.M (Kd.int .i64) _ _ _ 9998 [.int .i64 9998] from rfl) (Reps.one (show Kd.M (Kd.int .i64) _ _ _ 10000 [.int .i64 10000] from rfl) (Reps.one (show Kd.M (Kd.int .i64) _ _ _ 12 [.int .i64 12] from rfl) (Reps.none _ _))))))))); intro v242 w26 ho27 hb hg_ hnew_; clear hg_ hnew_; (first | rw [← Ny241.out] at ho27 | (simp only [Int.reduceToNat] at ho27; rw [← Ny241.out] at ho27)); have HO243 := Aside0.mk (Kd.R_lower ho27 (below_size (yw HB))); replace HB := ys HB hb; replace HI240 := Aside0.mk (IsS78.below (yI HI240) hb); clear hb ho27; obtain ⟨Ao28, co28, eo28⟩ := Kd.R_slice HO243.out; subst eo28) | ((with_reducible refine gate_callee (f := 33) rfl ?_); refine zG (some 12) Tryd.func33 #[.pointer (some ⟨g240, 0, none⟩), .slice Ao28 y241.length co28] ?_; (with_reducible refine (spec_l01PickInt.calls g240 t237 t238 t239 _ _ y241 t244 t245 t246 w _ ?side1 ?side2 ?side3 ?side4 ?side5 A3.out).mono ?_); (case side1 => exact yI HI240); (case side2 => exact yw HB); (case side3 => exact zI (Kd.R_reads' HO243.out).2.2); (case side4 => exact (Kd.R_reads' HO243.out).2.1); (case side5 => exact far_slice (IsS78.own_ne HI240.out HO243.out (by decide))); rintro e w29 ⟨rfl, hi, hb, hk⟩; refine ⟨_, rfl, ?_⟩; replace HO243 := Aside0.mk (Kd.R_mono (Kd.R_keep (IsS78.apart (show IsS78 w _ g240 t237 t238 t239 from yI HI240) (zo HO243.out) (by decide)) hk (fun _ h => h.2)) (fun _ h => h.1)); replace HB := Aside0.mk (hb); replace HI240 := Aside0.mk (hi); clear hi hb hk) | ((with_reducible refine gate_dst (N := 15) rfl ?_); refine Kd.R_lit (Kd.int .i64) _ 3 ?hg (N := 15) ?hd (xs := ([0, 1, 4, (-1)] : List Int)) (inner := [.int .i64 0, .int .i64 1, .int .i64 4, .int .i64 (-1)]) (ok := fun _ => True) (okp := fun _ => True) ?hr ?hp (fun _ hk => hk) trivial (Below.refl _ _) (Nat.le_refl _) (by simp) ?_; (case hd => rfl); (case hg => rfl); (case hr => first | (go_simp; done) | (go_simp; rfl)); (case hp => exact (Reps.one (show Kd.M (Kd.int .i64) _ _ _ 0 [.int .i64 0] from rfl) (Reps.one (show Kd.M (Kd.int .i64) _ _ _ 1 [.int .i64 1] from rfl) (Reps.one (show Kd.M (Kd.int .i64) _ _ _ 4 [.int .i64 4] from rfl) (Reps.one (show Kd.M (Kd.int .i64) _ _ _ (-1) [.int .i64 (-1)] from rfl) (Reps.none _ _)))))); intro v248 w30 ho31 hb hg_ hnew_; clear hg_ hnew_; (first | rw [← Ny247.out] at ho31 | (simp only [Int.reduceToNat] at ho31; rw [← Ny247.out] at ho31)); have HO249 := Aside0.mk (Kd.R_lower (Kd.R_new' ho31 (Kd.R_lt (zo HO243.out))) (below_size (yw HB))); replace HO243 := Aside0.mk (Kd.R_elder' (zo HO243.out) (Kd.R_base ho31) hb); replace HB := ys HB hb; replace HI240 := Aside0.mk (IsS78.below (yI HI240) hb); clear hb ho31; obtain ⟨Ao32, co32, eo32⟩ := Kd.R_slice HO249.out; subst eo32) | ((with_reducible refine gate_callee (f := 33) rfl ?_); refine zG (some 16) Tryd.func33 #[.pointer (some ⟨g240, 0, none⟩), .slice Ao32 y247.length co32] ?_; (with_reducible refine (spec_l01PickInt.calls g240 t237 t245 t246 _ _ y247 t250 t251 t252 w _ ?side1 ?side2 ?side3 ?side4 ?side5 A4.out).mono ?_); (case side1 => exact yI HI240); (case side2 => exact yw HB); (case side3 => exact zI (Kd.R_reads' HO249.out).2.2); (case side4 => exact (Kd.R_reads' HO249.out).2.1); (case side5 => exact far_slice (IsS78.own_ne HI240.out HO249.out (by decide))); rintro e w33 ⟨rfl, hi, hb, hk⟩; refine ⟨_, rfl, ?_⟩; replace HO243 := Aside0.mk (Kd.R_mono (Kd.R_keep (IsS78.apart (show IsS78 w _ g240 t237 t245 t246 from yI HI240) (zo HO243.out) (by decide)) hk (fun _ h => h.2)) (fun _ h => h.1)); replace HO249 := Aside0.mk (Kd.R_mono (Kd.R_keep (IsS78.apart (show IsS78 w _ g240 t237 t245 t246 from yI HI240) (zo HO249.out) (by decide)) hk (fun _ h => h.2)) (fun _ h => h.1)); replace HB := Aside0.mk (hb); replace HI240 := Aside0.mk (hi); clear hi hb hk) | ((with_reducible refine gate_callee (f := 34) rfl ?_); refine zG (some 19) Tryd.func34 #[.pointer (some ⟨g240, 0, none⟩), .int .i64 10] ?_; (with_reducible refine (spec_l01Once.calls g240 t237 t251 t252 10 false t254 t255 w _ ?side1 ?side2 A5.out).mono ?_); (case side1 => exact yI HI240); (case side2 => exact yw HB); rintro e w34 ⟨rfl, hi, hb, hk⟩; refine ⟨_, rfl, ?_⟩; replace HO243 := Aside0.mk (Kd.R_mono (Kd.R_keep (IsS78.apart (show IsS78 w _ g240 t237 t251 t252 from yI HI240) (zo HO243.out) (by decide)) hk (fun _ h => h.2)) (fun _ h => h.1)); replace HO249 := Aside0.mk (Kd.R_mono (Kd.R_keep (IsS78.apart (show IsS78 w _ g240 t237 t251 t252 from yI HI240) (zo HO249.out) (by decide)) hk (fun _ h => h.2)) (fun _ h => h.1)); replace HB := Aside0.mk (hb); replace HI240 := Aside0.mk (hi); clear hi hb hk) | ((with_reducible refine gate_callee (f := 35) rfl ?_); refine zG (some 24) Tryd.func35 #[.pointer (some ⟨g240, 0, none⟩)] ?_; (with_reducible refine (spec_l05Any.calls k g240 t237 t254 t255 t267 t270 t271 w _ ?side1 ?side2 A24.out).mono ?_); (case side1 => exact yI HI240); (case side2 => exact yw HB); rintro e w35 ⟨v268, rfl, ho0, hi, hb, hk⟩; refine ⟨_, rfl, ?_⟩; replace HO243 := Aside0.mk (Kd.R_mono (Kd.R_keep (IsS78.apart (show IsS78 w _ g240 t237 t254 t255 from yI HI240) (zo HO243.out) (by decide)) hk (fun _ h => h.2)) (fun _ h => h.1)); replace HO249 := Aside0.mk (Kd.R_mono (Kd.R_keep (IsS78.apart (show IsS78 w _ g240 t237 t254 t255 from yI HI240) (zo HO249.out) (by decide)) hk (fun _ h => h.2)) (fun _ h => h.1)); have HO269 := Aside0.mk (Kd.R_lower ho0 (below_size (yw HB))); replace HB := Aside0.mk (hb); replace HI240 := Aside0.mk (hi); clear ho0 hi hb hk))
  go_ret3
  exact ⟨_, ze, zo HO269.out, yw HB⟩

/-! ### impl_within: function 37 -/
def impl_within.f (a0 : Int) (a1 : Int) (a2 : Int) : Option (Bool) := if a0 ≥ a1 then (some (decide (a0 ≤ a2))) else (some false)
set_option maxHeartbeats 8000000 in
set_option maxRecDepth 100000 in
theorem impl_within.calls (a0 : Int) (a1 : Int) (a2 : Int) (r : Bool) (w : World) (h : impl_within.f a0 a1 a2 = some r) :
  Calls Tryd.prog 37 #[.int .i64 a0, .int .i64 a1, .int .i64 a2] w fun e w' => e = .returned (.bool r) ∧ Drawn0 w w' := by
 have H : (if a0 ≥ a1 then (some (decide (a0 ≤ a2))) else (some false)) = some r := h
 clear h
 by_cases c4 : a0 ≥ a1
 ·rw [if_pos c4] at H
  have c4b0 : decide (a1 ≤ a0) = true := decide_eq_true c4
  clear c4
  obtain rfl := Option.some.inj H
  go_enter Tryd.func37, Tryd.ntmps37
  go_wp2
  go_ret
  exact ⟨by first | rfl | (simp; done) | (simp [*]; done), by repeat (first | exact Drawn0.refl _ | apply Drawn0.step)⟩
 ·rw [if_neg c4] at H
  have c4b0 : decide (a1 ≤ a0) = false := decide_eq_false c4
  clear c4
  obtain rfl := Option.some.inj H
  go_enter Tryd.func37, Tryd.ntmps37
  go_wp2
  go_ret
  exact ⟨by first | rfl | (simp; done) | (simp [*]; done), by repeat (first | exact Drawn0.refl _ | apply Drawn0.step)⟩

/-! ### impl_isUid: function 36 -/
def impl_isUid.f (a0 : Int) : Option (Bool) := (impl_within.f a0 1 9999).bind fun t272 => (some t272)
set_option maxHeartbeats 8000000 in
set_option maxRecDepth 100000 in
theorem impl_isUid.calls (a0 : Int) (r : Bool) (w : World) (h : impl_isUid.f a0 = some r) :
  Calls Tryd.prog 36 #[.int .i64 a0] w fun e w' => e = .returned (.bool r) ∧ Drawn0 w w' := by
 have H : ((impl_within.f a0 1 9999).bind fun t272 => (some t272)) = some r := h
 clear h
 replace H := Option.bind_eq_some_iff.mp H
 obtain ⟨t272, A20, H⟩ := H
 have A2 := Aside0.mk A20
 clear A20
 obtain rfl := Option.some.inj H
 go_enter Tryd.func36, Tryd.ntmps36
 go_wp2_with (first | ((with_reducible refine gate_callee (f := 37) rfl ?_); refine zG (some 4) Tryd.func37 #[.int .i64 a0, .int .i64 1, .int .i64 9999] ?_; (with_reducible refine (impl_within.calls a0 1 9999 t272 _ A2.out).mono ?_); rintro e w' ⟨rfl, ⟨nd, rfl⟩⟩; refine ⟨_, rfl, ?_⟩))
 go_ret
 exact ⟨by first | rfl | (simp; done) | (simp [*]; done), by repeat (first | exact Drawn0.refl _ | apply Drawn0.step)⟩

/-! ### impl_SetOk: function 20 -/
def impl_SetOk.l0 : Nat → List (S40) → List (S40) → Int → Int → Option (Bool)
 | 0, _, _, _, _ => none
 | k + 1, x0, x5, x6, x7 => if x7 < x6 then (if 0 ≤ x7 then (if x7 < (x5.length : Int) then ((impl_isUid.f ((rd_T40 x5 x7).f0)).bind fun t275 => (if t275 = true then ((impl_within.f ((rd_T40 x5 x7).f1) ((rd_T40 x5 x7).f0) 9999).bind fun t276 => (if t276 = true then (if x7 > 0 then (if 0 ≤ (wrap64 (x7 - 1)) then (if (wrap64 (x7 - 1)) < (x0.length : Int) then (if ((rd_T40 x5 x7).f0) ≤ (wrap64 (((rd_T40 x0 (wrap64 (x7 - 1))).f1) + 1)) then (some false) else (impl_SetOk.l0 k x0 x5 x6 (wrap64 (x7 + 1)))) else (none)) else (none)) else (impl_SetOk.l0 k x0 x5 x6 (wrap64 (x7 + 1)))) else (some false))) else (some false))) else (none)) else (none)) else (some (decide ((x0.length : Int) ≤ 40)))
def impl_SetOk.f (k : Nat) (l0 : List (S40)) : Option (Bool) := impl_SetOk.l0 k l0 l0 (l0.length : Int) 0
theorem impl_SetOk.mono_l : ∀ k, (∀ y0 y1 y2 y3, LeO (impl_SetOk.l0 k y0 y1 y2 y3) (impl_SetOk.l0 (k + 1) y0 y1 y2 y3))
 | 0 => fun _ _ _ _ r h => by simp [impl_SetOk.l0] at h
 | k + 1 => by
  have ih0 := impl_SetOk.mono_l k
  ·intro y0 y1 y2 y3
   unfold impl_SetOk.l0
   repeat' first
   | (with_reducible exact ih0 _ _ _ _)
   | (with_reducible exact LeO.refl _)
   | (with_reducible exact LeO.none _)
   | (with_reducible refine LeO.ite ?_ ?_)
   | (with_reducible refine LeO.bind ?_ (fun _ => ?_))
   | exact ih0 _ _ _ _
   | exact LeO.none _
   | refine LeO.ite ?_ ?_
   | refine LeO.bind ?_ (fun _ => ?_)
theorem impl_SetOk.mono : ∀ a0 k, LeO (impl_SetOk.f k a0) (impl_SetOk.f (k + 1) a0) := by
 intro a0 k
 have ih0 := impl_SetOk.mono_l k
 unfold impl_SetOk.f
 repeat' first
   | (with_reducible exact ih0 _ _ _ _)
   | (with_reducible exact LeO.refl _)
   | (with_reducible exact LeO.none _)
   | (with_reducible refine LeO.ite ?_ ?_)
   | (with_reducible refine LeO.bind ?_ (fun _ => ?_))
   | exact ih0 _ _ _ _
   | exact LeO.none _
   | refine LeO.ite ?_ ?_
   | refine LeO.bind ?_ (fun _ => ?_)
set_option maxHeartbeats 8000000 in
set_option maxRecDepth 100000 in
theorem impl_SetOk.calls (k : Nat) (A0 : Option Addr) (c0 : Nat) (l0 : List (S40)) (r : Bool) (w : World) (hr0 : Kd.C k40 w A0 l0.length l0) (hc0 : l0.length ≤ c0) (h : impl_SetOk.f k l0 = some r) :
  Calls Tryd.prog 20 #[.slice A0 l0.length c0] w fun e w' => e = .returned (.bool r) ∧ Below w.heap.size w w' := by
 have hu40 := Tryd.underlying40
 have HR0 := Aside0.mk hr0
 have HC0 := Aside0.mk hc0
 clear hr0 hc0
 have HB := Aside0.mk (Below.refl w.heap.size w)
 have H : (impl_SetOk.l0 k l0 l0 (l0.length : Int) 0) = some r := h
 clear h
 have H' := Aside0.mk H
 clear H
 go_enter Tryd.func20, Tryd.ntmps20
 go_wp2
 repeat (go_quiet (fail); try go_wp2)
 go_loopg [7] k (fun kq v7 w' => ∃ (x7_1 : Int), v7 = .int .i64 x7_1 ∧ Aside0 (impl_SetOk.l0 kq l0 l0 (l0.length : Int) x7_1 = some r) ∧ Aside0 (kq ≤ k) ∧ Aside0 (Below w.heap.size w w'))
 case atStart => exact ⟨(0), zf, H', ⟨Nat.le_refl _⟩, ⟨zw HB⟩⟩
 case round =>
  clear H'
  obtain ⟨x7_1, rfl, HA, HK1, HB⟩ := hrel
  cases gk with
  | zero => exact absurd HA.out (by simp [impl_SetOk.l0])
  | succ k1 =>
   have H := HA.out
   clear HA
   simp only [impl_SetOk.l0] at H
   by_cases c2 : x7_1 < (l0.length : Int)
   ·rw [if_pos c2] at H
    have c2b0 : decide (x7_1 < (l0.length : Int)) = true := decide_eq_true c2
    clear c2
    by_cases c3 : 0 ≤ x7_1
    ·rw [if_pos c3] at H
     have c3b0 : decide (0 ≤ x7_1) = true := decide_eq_true c3
     clear c3
     by_cases c4 : x7_1 < (l0.length : Int)
     ·rw [if_pos c4] at H
      have c4b0 : decide (x7_1 < (l0.length : Int)) = true := decide_eq_true c4
      clear c4
      replace H := Option.bind_eq_some_iff.mp H
      obtain ⟨t275, A50, H⟩ := H
      have A5 := Aside0.mk A50
      clear A50
      by_cases c6 : t275 = true
      ·subst c6
       rw [if_pos rfl] at H
       replace H := Option.bind_eq_some_iff.mp H
       obtain ⟨t276, A70, H⟩ := H
       have A7 := Aside0.mk A70
       clear A70
       by_cases c8 : t276 = true
       ·subst c8
        rw [if_pos rfl] at H
        by_cases c9 : x7_1 > 0
        ·rw [if_pos c9] at H
         have c9b0 : decide (0 < x7_1) = true := decide_eq_true c9
         clear c9
         obtain ⟨ji10, hji10⟩ : ∃ j_ : Int, (wrap64 (x7_1 - 1)) = j_ := ⟨_, rfl⟩
         replace H : (if 0 ≤ (ji10) then (if (ji10) < (l0.length : Int) then (if ((rd_T40 l0 x7_1).f0) ≤ (wrap64 (((rd_T40 l0 (ji10)).f1) + 1)) then (some false) else (impl_SetOk.l0 k1 l0 l0 (l0.length : Int) (wrap64 (x7_1 + 1)))) else (none)) else (none)) = some r := by first | (rw [hji10] at H; exact H) | (simp only [hji10] at H ⊢; exact H)
         (try rw [hji10] at A5)
         (try rw [hji10] at A7)
         have hji10w : (IntKind.i64.wrap (x7_1 - 1)) = ji10 := (i64_w _).trans hji10
         by_cases c11 : 0 ≤ (ji10)
         ·rw [if_pos c11] at H
          have c11b0 : decide (0 ≤ (ji10)) = true := decide_eq_true c11
          clear c11
          by_cases c12 : (ji10) < (l0.length : Int)
          ·rw [if_pos c12] at H
           have c12b0 : decide ((ji10) < (l0.length : Int)) = true := decide_eq_true c12
           clear c12
           by_cases c13 : ((rd_T40 l0 x7_1).f0) ≤ (wrap64 (((rd_T40 l0 (ji10)).f1) + 1))
           ·rw [if_pos c13] at H
            have c13b0 : decide (((rd_T40 l0 x7_1).f0) ≤ (wrap64 (((rd_T40 l0 (ji10)).f1) + 1))) = true := decide_eq_true c13
            have c13b1 : decide (((rd_T40 l0 x7_1).f0) ≤ (IntKind.i64.wrap (((rd_T40 l0 (ji10)).f1) + 1))) = true := by (try simp only [i64_w]); exact c13b0
            clear c13
            obtain rfl := Option.some.inj H
            have p273 : 0 ≤ (x7_1 : Int) := of_decide_eq_true za
            have q273 : x7_1 < (l0.length : Int) := of_decide_eq_true za
            obtain ⟨ad273, e273, hx273_0, hx273_1⟩ := at_T40 HR0.out x7_1 p273 q273
            cases e273
            replace hx273_0 := zU HB.out hx273_0
            replace hx273_1 := zU HB.out hx273_1
            replace p273 := eq_true p273
            replace q273 := eq_true q273
            go_wp2_with (first | ((with_reducible refine gate_dst (N := 4) rfl ?_); refine zx (N := 4) (cs := #[.int .i64 0, .int .i64 0]) (t := 40) ?_; intro gb274 hg w14 hbox hb; have BK274 := Aside0.mk (hbox); have GW274 := zg HB hg; have GE274 := zg HB hg; replace HB := zs HB hb; clear hb hbox hg; have hcz15_0 : w14.cell? ⟨gb274, 0, none⟩ = some (.int .i64 0) := (blk_cell BK274.out 0).trans rfl; have hcz15_1 : w14.cell? ⟨gb274, 1, none⟩ = some (.int .i64 0) := (blk_cell BK274.out 1).trans rfl; have hfz15_0 := blk_frozen BK274.out 0; have hfz15_1 := blk_frozen BK274.out 1) | (go_at_call 36; (with_reducible refine (impl_isUid.calls ((rd_T40 l0 x7_1).f0) true _ A5.out).mono ?_); rintro e w' ⟨rfl, ⟨nd, rfl⟩⟩; (try first | exact ⟨rfl, _, World.drewN_drewN _ _ _⟩ | exact ⟨rfl, _, Eq.trans (World.drewN_drewN _ _ _) (congrArg (World.drewN _) (Nat.add_assoc _ _ _))⟩)) | (go_at_call 37; (with_reducible refine (impl_within.calls ((rd_T40 l0 x7_1).f1) ((rd_T40 l0 x7_1).f0) 9999 true _ A7.out).mono ?_); rintro e w' ⟨rfl, ⟨nd, rfl⟩⟩; (try first | exact ⟨rfl, _, World.drewN_drewN _ _ _⟩ | exact ⟨rfl, _, Eq.trans (World.drewN_drewN _ _ _) (congrArg (World.drewN _) (Nat.add_assoc _ _ _))⟩); have p277 : 0 ≤ ((ji10) : Int) := of_decide_eq_true za; have q277 : (ji10) < (l0.length : Int) := of_decide_eq_true za; obtain ⟨ad277, e277, hx277_0, hx277_1⟩ := at_T40 HR0.out (ji10) p277 q277; obtain rfl : ad273 = ad277 := (by injection e277); have hn277_0 : ad273.block ≠ gb274 := Nat.ne_of_lt (Nat.lt_of_lt_of_le (by have := World.block_lt_of_cell? _ _ hx277_0; first | rwa [add_block] at this | exact this) GW274.out); have hn277_1 : ad273.block ≠ gb274 := Nat.ne_of_lt (Nat.lt_of_lt_of_le (by have := World.block_lt_of_cell? _ _ hx277_0; first | rwa [add_block] at this | exact this) GW274.out); replace hx277_0 := zU HB.out hx277_0; replace hx277_1 := zU HB.out hx277_1; replace hx277_0 := (cell_far (p := ⟨gb274, 0, none⟩) (by first | (rw [add_block]; exact hn277_0) | (show (Addr.add _ _).block ≠ _; rw [add_block]; exact hn277_0) | exact hn277_0) (.int .i64 ((rd_T40 l0 x7_1).f0))).trans hx277_0; replace hx277_1 := (cell_far (p := ⟨gb274, 0, none⟩) (by first | (rw [add_block]; exact hn277_0) | (show (Addr.add _ _).block ≠ _; rw [add_block]; exact hn277_0) | exact hn277_0) (.int .i64 ((rd_T40 l0 x7_1).f0))).trans hx277_1; replace hx277_0 := (cell_far (p := ⟨gb274, 1, none⟩) (by first | (rw [add_block]; exact hn277_1) | (show (Addr.add _ _).block ≠ _; rw [add_block]; exact hn277_1) | exact hn277_1) (.int .i64 ((rd_T40 l0 x7_1).f1))).trans hx277_0; replace hx277_1 := (cell_far (p := ⟨gb274, 1, none⟩) (by first | (rw [add_block]; exact hn277_1) | (show (Addr.add _ _).block ≠ _; rw [add_block]; exact hn277_1) | exact hn277_1) (.int .i64 ((rd_T40 l0 x7_1).f1))).trans hx277_1; (try have hy277_0 := fun (n_ : Nat) => (show ((((w14.drewN n_).setCell ⟨gb274, 0, none⟩ (.int .i64 ((rd_T40 l0 x7_1).f0))).setCell ⟨gb274, 1, none⟩ (.int .i64 ((rd_T40 l0 x7_1).f1)))).cell? _ = some _ from hx277_0)); (try have hy277_1 := fun (n_ : Nat) => (show ((((w14.drewN n_).setCell ⟨gb274, 0, none⟩ (.int .i64 ((rd_T40 l0 x7_1).f0))).setCell ⟨gb274, 1, none⟩ (.int .i64 ((rd_T40 l0 x7_1).f1)))).cell? _ = some _ from hx277_1)); clear hn277_0; clear hn277_1; replace p277 := eq_true p277; replace q277 := eq_true q277))
            repeat (go_quiet (first | ((with_reducible refine gate_dst (N := 4) rfl ?_); refine zx (N := 4) (cs := #[.int .i64 0, .int .i64 0]) (t := 40) ?_; intro gb274 hg w14 hbox hb; have BK274 := Aside0.mk (hbox); have GW274 := zg HB hg; have GE274 := zg HB hg; replace HB := zs HB hb; clear hb hbox hg; have hcz15_0 : w14.cell? ⟨gb274, 0, none⟩ = some (.int .i64 0) := (blk_cell BK274.out 0).trans rfl; have hcz15_1 : w14.cell? ⟨gb274, 1, none⟩ = some (.int .i64 0) := (blk_cell BK274.out 1).trans rfl; have hfz15_0 := blk_frozen BK274.out 0; have hfz15_1 := blk_frozen BK274.out 1) | (go_at_call 36; (with_reducible refine (impl_isUid.calls ((rd_T40 l0 x7_1).f0) true _ A5.out).mono ?_); rintro e w' ⟨rfl, ⟨nd, rfl⟩⟩; (try first | exact ⟨rfl, _, World.drewN_drewN _ _ _⟩ | exact ⟨rfl, _, Eq.trans (World.drewN_drewN _ _ _) (congrArg (World.drewN _) (Nat.add_assoc _ _ _))⟩)) | (go_at_call 37; (with_reducible refine (impl_within.calls ((rd_T40 l0 x7_1).f1) ((rd_T40 l0 x7_1).f0) 9999 true _ A7.out).mono ?_); rintro e w' ⟨rfl, ⟨nd, rfl⟩⟩; (try first | exact ⟨rfl, _, World.drewN_drewN _ _ _⟩ | exact ⟨rfl, _, Eq.trans (World.drewN_drewN _ _ _) (congrArg (World.drewN _) (Nat.add_assoc _ _ _))⟩); have p277 : 0 ≤ ((ji10) : Int) := of_decide_eq_true za; have q277 : (ji10) < (l0.length : Int) := of_decide_eq_true za; obtain ⟨ad277, e277, hx277_0, hx277_1⟩ := at_T40 HR0.out (ji10) p277 q277; obtain rfl : ad273 = ad277 := (by injection e277); have hn277_0 : ad273.block ≠ gb274 := Nat.ne_of_lt (Nat.lt_of_lt_of_le (by have := World.block_lt_of_cell? _ _ hx277_0; first | rwa [add_block] at this | exact this) GW274.out); have hn277_1 : ad273.block ≠ gb274 := Nat.ne_of_lt (Nat.lt_of_lt_of_le (by have := World.block_lt_of_cell? _ _ hx277_0; first | rwa [add_block] at this | exact this) GW274.out); replace hx277_0 := zU HB.out hx277_0; replace hx277_1 := zU HB.out hx277_1; replace hx277_0 := (cell_far (p := ⟨gb274, 0, none⟩) (by first | (rw [add_block]; exact hn277_0) | (show (Addr.add _ _).block ≠ _; rw [add_block]; exact hn277_0) | exact hn277_0) (.int .i64 ((rd_T40 l0 x7_1).f0))).trans hx277_0; replace hx277_1 := (cell_far (p := ⟨gb274, 0, none⟩) (by first | (rw [add_block]; exact hn277_0) | (show (Addr.add _ _).block ≠ _; rw [add_block]; exact hn277_0) | exact hn277_0) (.int .i64 ((rd_T40 l0 x7_1).f0))).trans hx277_1; replace hx277_0 := (cell_far (p := ⟨gb274, 1, none⟩) (by first | (rw [add_block]; exact hn277_1) | (show (Addr.add _ _).block ≠ _; rw [add_block]; exact hn277_1) | exact hn277_1) (.int .i64 ((rd_T40 l0 x7_1).f1))).trans hx277_0; replace hx277_1 := (cell_far (p := ⟨gb274, 1, none⟩) (by first | (rw [add_block]; exact hn277_1) | (show (Addr.add _ _).block ≠ _; rw [add_block]; exact hn277_1) | exact hn277_1) (.int .i64 ((rd_T40 l0 x7_1).f1))).trans hx277_1; (try have hy277_0 := fun (n_ : Nat) => (show ((((w14.drewN n_).setCell ⟨gb274, 0, none⟩ (.int .i64 ((rd_T40 l0 x7_1).f0))).setCell ⟨gb274, 1, none⟩ (.int .i64 ((rd_T40 l0 x7_1).f1)))).cell? _ = some _ from hx277_0)); (try have hy277_1 := fun (n_ : Nat) => (show ((((w14.drewN n_).setCell ⟨gb274, 0, none⟩ (.int .i64 ((rd_T40 l0 x7_1).f0))).setCell ⟨gb274, 1, none⟩ (.int .i64 ((rd_T40 l0 x7_1).f1)))).cell? _ = some _ from hx277_1)); clear hn277_0; clear hn277_1; replace p277 := eq_true p277; replace q277 := eq_true q277)); try go_wp2_with (first | ((with_reducible refine gate_dst (N := 4) rfl ?_); refine zx (N := 4) (cs := #[.int .i64 0, .int .i64 0]) (t := 40) ?_; intro gb274 hg w14 hbox hb; have BK274 := Aside0.mk (hbox); have GW274 := zg HB hg; have GE274 := zg HB hg; replace HB := zs HB hb; clear hb hbox hg; have hcz15_0 : w14.cell? ⟨gb274, 0, none⟩ = some (.int .i64 0) := (blk_cell BK274.out 0).trans rfl; have hcz15_1 : w14.cell? ⟨gb274, 1, none⟩ = some (.int .i64 0) := (blk_cell BK274.out 1).trans rfl; have hfz15_0 := blk_frozen BK274.out 0; have hfz15_1 := blk_frozen BK274.out 1) | (go_at_call 36; (with_reducible refine (impl_isUid.calls ((rd_T40 l0 x7_1).f0) true _ A5.out).mono ?_); rintro e w' ⟨rfl, ⟨nd, rfl⟩⟩; (try first | exact ⟨rfl, _, World.drewN_drewN _ _ _⟩ | exact ⟨rfl, _, Eq.trans (World.drewN_drewN _ _ _) (congrArg (World.drewN _) (Nat.add_assoc _ _ _))⟩)) | (go_at_call 37; (with_reducible refine (impl_within.calls ((rd_T40 l0 x7_1).f1) ((rd_T40 l0 x7_1).f0) 9999 true _ A7.out).mono ?_); rintro e w' ⟨rfl, ⟨nd, rfl⟩⟩; (try first | exact ⟨rfl, _, World.drewN_drewN _ _ _⟩ | exact ⟨rfl, _, Eq.trans (World.drewN_drewN _ _ _) (congrArg (World.drewN _) (Nat.add_assoc _ _ _))⟩); have p277 : 0 ≤ ((ji10) : Int) := of_decide_eq_true za; have q277 : (ji10) < (l0.length : Int) := of_decide_eq_true za; obtain ⟨ad277, e277, hx277_0, hx277_1⟩ := at_T40 HR0.out (ji10) p277 q277; obtain rfl : ad273 = ad277 := (by injection e277); have hn277_0 : ad273.block ≠ gb274 := Nat.ne_of_lt (Nat.lt_of_lt_of_le (by have := World.block_lt_of_cell? _ _ hx277_0; first | rwa [add_block] at this | exact this) GW274.out); have hn277_1 : ad273.block ≠ gb274 := Nat.ne_of_lt (Nat.lt_of_lt_of_le (by have := World.block_lt_of_cell? _ _ hx277_0; first | rwa [add_block] at this | exact this) GW274.out); replace hx277_0 := zU HB.out hx277_0; replace hx277_1 := zU HB.out hx277_1; replace hx277_0 := (cell_far (p := ⟨gb274, 0, none⟩) (by first | (rw [add_block]; exact hn277_0) | (show (Addr.add _ _).block ≠ _; rw [add_block]; exact hn277_0) | exact hn277_0) (.int .i64 ((rd_T40 l0 x7_1).f0))).trans hx277_0; replace hx277_1 := (cell_far (p := ⟨gb274, 0, none⟩) (by first | (rw [add_block]; exact hn277_0) | (show (Addr.add _ _).block ≠ _; rw [add_block]; exact hn277_0) | exact hn277_0) (.int .i64 ((rd_T40 l0 x7_1).f0))).trans hx277_1; replace hx277_0 := (cell_far (p := ⟨gb274, 1, none⟩) (by first | (rw [add_block]; exact hn277_1) | (show (Addr.add _ _).block ≠ _; rw [add_block]; exact hn277_1) | exact hn277_1) (.int .i64 ((rd_T40 l0 x7_1).f1))).trans hx277_0; replace hx277_1 := (cell_far (p := ⟨gb274, 1, none⟩) (by first | (rw [add_block]; exact hn277_1) | (show (Addr.add _ _).block ≠ _; rw [add_block]; exact hn277_1) | exact hn277_1) (.int .i64 ((rd_T40 l0 x7_1).f1))).trans hx277_1; (try have hy277_0 := fun (n_ : Nat) => (show ((((w14.drewN n_).setCell ⟨gb274, 0, none⟩ (.int .i64 ((rd_T40 l0 x7_1).f0))).setCell ⟨gb274, 1, none⟩ (.int .i64 ((rd_T40 l0 x7_1).f1)))).cell? _ = some _ from hx277_0)); (try have hy277_1 := fun (n_ : Nat) => (show ((((w14.drewN n_).setCell ⟨gb274, 0, none⟩ (.int .i64 ((rd_T40 l0 x7_1).f0))).setCell ⟨gb274, 1, none⟩ (.int .i64 ((rd_T40 l0 x7_1).f1)))).cell? _ = some _ from hx277_1)); clear hn277_0; clear hn277_1; replace p277 := eq_true p277; replace q277 := eq_true q277)))
            go_ret
            exact ⟨by first | rfl | (simp [errW_none, errW_some] <;> rfl) | (simp only [← hji10]; first | rfl | (simp [errW_none, errW_some] <;> rfl)) | (simp [*, errW_none, errW_some] <;> rfl), zw HB⟩
           ·rw [if_neg c13] at H
            have c13b0 : decide (((rd_T40 l0 x7_1).f0) ≤ (wrap64 (((rd_T40 l0 (ji10)).f1) + 1))) = false := decide_eq_false c13
            have c13b1 : decide (((rd_T40 l0 x7_1).f0) ≤ (IntKind.i64.wrap (((rd_T40 l0 (ji10)).f1) + 1))) = false := by (try simp only [i64_w]); exact c13b0
            clear c13
            have H' := Aside0.mk H
            clear H
            have p273 : 0 ≤ (x7_1 : Int) := of_decide_eq_true za
            have q273 : x7_1 < (l0.length : Int) := of_decide_eq_true za
            obtain ⟨ad273, e273, hx273_0, hx273_1⟩ := at_T40 HR0.out x7_1 p273 q273
            cases e273
            replace hx273_0 := zU HB.out hx273_0
            replace hx273_1 := zU HB.out hx273_1
            replace p273 := eq_true p273
            replace q273 := eq_true q273
            go_wp2_with (first | ((with_reducible refine gate_dst (N := 4) rfl ?_); refine zx (N := 4) (cs := #[.int .i64 0, .int .i64 0]) (t := 40) ?_; intro gb274 hg w16 hbox hb; have BK274 := Aside0.mk (hbox); have GW274 := zg HB hg; have GE274 := zg HB hg; replace HB := zs HB hb; clear hb hbox hg; have hcz17_0 : w16.cell? ⟨gb274, 0, none⟩ = some (.int .i64 0) := (blk_cell BK274.out 0).trans rfl; have hcz17_1 : w16.cell? ⟨gb274, 1, none⟩ = some (.int .i64 0) := (blk_cell BK274.out 1).trans rfl; have hfz17_0 := blk_frozen BK274.out 0; have hfz17_1 := blk_frozen BK274.out 1) | (go_at_call 36; (with_reducible refine (impl_isUid.calls ((rd_T40 l0 x7_1).f0) true _ A5.out).mono ?_); rintro e w' ⟨rfl, ⟨nd, rfl⟩⟩; (try first | exact ⟨rfl, _, World.drewN_drewN _ _ _⟩ | exact ⟨rfl, _, Eq.trans (World.drewN_drewN _ _ _) (congrArg (World.drewN _) (Nat.add_assoc _ _ _))⟩)) | (go_at_call 37; (with_reducible refine (impl_within.calls ((rd_T40 l0 x7_1).f1) ((rd_T40 l0 x7_1).f0) 9999 true _ A7.out).mono ?_); rintro e w' ⟨rfl, ⟨nd, rfl⟩⟩; (try first | exact ⟨rfl, _, World.drewN_drewN _ _ _⟩ | exact ⟨rfl, _, Eq.trans (World.drewN_drewN _ _ _) (congrArg (World.drewN _) (Nat.add_assoc _ _ _))⟩); have p277 : 0 ≤ ((ji10) : Int) := of_decide_eq_true za; have q277 : (ji10) < (l0.length : Int) := of_decide_eq_true za; obtain ⟨ad277, e277, hx277_0, hx277_1⟩ := at_T40 HR0.out (ji10) p277 q277; obtain rfl : ad273 = ad277 := (by injection e277); have hn277_0 : ad273.block ≠ gb274 := Nat.ne_of_lt (Nat.lt_of_lt_of_le (by have := World.block_lt_of_cell? _ _ hx277_0; first | rwa [add_block] at this | exact this) GW274.out); have hn277_1 : ad273.block ≠ gb274 := Nat.ne_of_lt (Nat.lt_of_lt_of_le (by have := World.block_lt_of_cell? _ _ hx277_0; first | rwa [add_block] at this | exact this) GW274.out); replace hx277_0 := zU HB.out hx277_0; replace hx277_1 := zU HB.out hx277_1; replace hx277_0 := (cell_far (p := ⟨gb274, 0, none⟩) (by first | (rw [add_block]; exact hn277_0) | (show (Addr.add _ _).block ≠ _; rw [add_block]; exact hn277_0) | exact hn277_0) (.int .i64 ((rd_T40 l0 x7_1).f0))).trans hx277_0; replace hx277_1 := (cell_far (p := ⟨gb274, 0, none⟩) (by first | (rw [add_block]; exact hn277_0) | (show (Addr.add _ _).block ≠ _; rw [add_block]; exact hn277_0) | exact hn277_0) (.int .i64 ((rd_T40 l0 x7_1).f0))).trans hx277_1; replace hx277_0 := (cell_far (p := ⟨gb274, 1, none⟩) (by first | (rw [add_block]; exact hn277_1) | (show (Addr.add _ _).block ≠ _; rw [add_block]; exact hn277_1) | exact hn277_1) (.int .i64 ((rd_T40 l0 x7_1).f1))).trans hx277_0; replace hx277_1 := (cell_far (p := ⟨gb274, 1, none⟩) (by first | (rw [add_block]; exact hn277_1) | (show (Addr.add _ _).block ≠ _; rw [add_block]; exact hn277_1) | exact hn277_1) (.int .i64 ((rd_T40 l0 x7_1).f1))).trans hx277_1; (try have hy277_0 := fun (n_ : Nat) => (show ((((w16.drewN n_).setCell ⟨gb274, 0, none⟩ (.int .i64 ((rd_T40 l0 x7_1).f0))).setCell ⟨gb274, 1, none⟩ (.int .i64 ((rd_T40 l0 x7_1).f1)))).cell? _ = some _ from hx277_0)); (try have hy277_1 := fun (n_ : Nat) => (show ((((w16.drewN n_).setCell ⟨gb274, 0, none⟩ (.int .i64 ((rd_T40 l0 x7_1).f0))).setCell ⟨gb274, 1, none⟩ (.int .i64 ((rd_T40 l0 x7_1).f1)))).cell? _ = some _ from hx277_1)); clear hn277_0; clear hn277_1; replace p277 := eq_true p277; replace q277 := eq_true q277))
            repeat (go_quiet (first | ((with_reducible refine gate_dst (N := 4) rfl ?_); refine zx (N := 4) (cs := #[.int .i64 0, .int .i64 0]) (t := 40) ?_; intro gb274 hg w16 hbox hb; have BK274 := Aside0.mk (hbox); have GW274 := zg HB hg; have GE274 := zg HB hg; replace HB := zs HB hb; clear hb hbox hg; have hcz17_0 : w16.cell? ⟨gb274, 0, none⟩ = some (.int .i64 0) := (blk_cell BK274.out 0).trans rfl; have hcz17_1 : w16.cell? ⟨gb274, 1, none⟩ = some (.int .i64 0) := (blk_cell BK274.out 1).trans rfl; have hfz17_0 := blk_frozen BK274.out 0; have hfz17_1 := blk_frozen BK274.out 1) | (go_at_call 36; (with_reducible refine (impl_isUid.calls ((rd_T40 l0 x7_1).f0) true _ A5.out).mono ?_); rintro e w' ⟨rfl, ⟨nd, rfl⟩⟩; (try first | exact ⟨rfl, _, World.drewN_drewN _ _ _⟩ | exact ⟨rfl, _, Eq.trans (World.drewN_drewN _ _ _) (congrArg (World.drewN _) (Nat.add_assoc _ _ _))⟩)) | (go_at_call 37; (with_reducible refine (impl_within.calls ((rd_T40 l0 x7_1).f1) ((rd_T40 l0 x7_1).f0) 9999 true _ A7.out).mono ?_); rintro e w' ⟨rfl, ⟨nd, rfl⟩⟩; (try first | exact ⟨rfl, _, World.drewN_drewN _ _ _⟩ | exact ⟨rfl, _, Eq.trans (World.drewN_drewN _ _ _) (congrArg (World.drewN _) (Nat.add_assoc _ _ _))⟩); have p277 : 0 ≤ ((ji10) : Int) := of_decide_eq_true za; have q277 : (ji10) < (l0.length : Int) := of_decide_eq_true za; obtain ⟨ad277, e277, hx277_0, hx277_1⟩ := at_T40 HR0.out (ji10) p277 q277; obtain rfl : ad273 = ad277 := (by injection e277); have hn277_0 : ad273.block ≠ gb274 := Nat.ne_of_lt (Nat.lt_of_lt_of_le (by have := World.block_lt_of_cell? _ _ hx277_0; first | rwa [add_block] at this | exact this) GW274.out); have hn277_1 : ad273.block ≠ gb274 := Nat.ne_of_lt (Nat.lt_of_lt_of_le (by have := World.block_lt_of_cell? _ _ hx277_0; first | rwa [add_block] at this | exact this) GW274.out); replace hx277_0 := zU HB.out hx277_0; replace hx277_1 := zU HB.out hx277_1; replace hx277_0 := (cell_far (p := ⟨gb274, 0, none⟩) (by first | (rw [add_block]; exact hn277_0) | (show (Addr.add _ _).block ≠ _; rw [add_block]; exact hn277_0) | exact hn277_0) (.int .i64 ((rd_T40 l0 x7_1).f0))).trans hx277_0; replace hx277_1 := (cell_far (p := ⟨gb274, 0, none⟩) (by first | (rw [add_block]; exact hn277_0) | (show (Addr.add _ _).block ≠ _; rw [add_block]; exact hn277_0) | exact hn277_0) (.int .i64 ((rd_T40 l0 x7_1).f0))).trans hx277_1; replace hx277_0 := (cell_far (p := ⟨gb274, 1, none⟩) (by first | (rw [add_block]; exact hn277_1) | (show (Addr.add _ _).block ≠ _; rw [add_block]; exact hn277_1) | exact hn277_1) (.int .i64 ((rd_T40 l0 x7_1).f1))).trans hx277_0; replace hx277_1 := (cell_far (p := ⟨gb274, 1, none⟩) (by first | (rw [add_block]; exact hn277_1) | (show (Addr.add _ _).block ≠ _; rw [add_block]; exact hn277_1) | exact hn277_1) (.int .i64 ((rd_T40 l0 x7_1).f1))).trans hx277_1; (try have hy277_0 := fun (n_ : Nat) => (show ((((w16.drewN n_).setCell ⟨gb274, 0, none⟩ (.int .i64 ((rd_T40 l0 x7_1).f0))).setCell ⟨gb274, 1, none⟩ (.int .i64 ((rd_T40 l0 x7_1).f1)))).cell? _ = some _ from hx277_0)); (try have hy277_1 := fun (n_ : Nat) => (show ((((w16.drewN n_).setCell ⟨gb274, 0, none⟩ (.int .i64 ((rd_T40 l0 x7_1).f0))).setCell ⟨gb274, 1, none⟩ (.int .i64 ((rd_T40 l0 x7_1).f1)))).cell? _ = some _ from hx277_1)); clear hn277_0; clear hn277_1; replace p277 := eq_true p277; replace q277 := eq_true q277)); try go_wp2_with (first | ((with_reducible refine gate_dst (N := 4) rfl ?_); refine zx (N := 4) (cs := #[.int .i64 0, .int .i64 0]) (t := 40) ?_; intro gb274 hg w16 hbox hb; have BK274 := Aside0.mk (hbox); have GW274 := zg HB hg; have GE274 := zg HB hg; replace HB := zs HB hb; clear hb hbox hg; have hcz17_0 : w16.cell? ⟨gb274, 0, none⟩ = some (.int .i64 0) := (blk_cell BK274.out 0).trans rfl; have hcz17_1 : w16.cell? ⟨gb274, 1, none⟩ = some (.int .i64 0) := (blk_cell BK274.out 1).trans rfl; have hfz17_0 := blk_frozen BK274.out 0; have hfz17_1 := blk_frozen BK274.out 1) | (go_at_call 36; (with_reducible refine (impl_isUid.calls ((rd_T40 l0 x7_1).f0) true _ A5.out).mono ?_); rintro e w' ⟨rfl, ⟨nd, rfl⟩⟩; (try first | exact ⟨rfl, _, World.drewN_drewN _ _ _⟩ | exact ⟨rfl, _, Eq.trans (World.drewN_drewN _ _ _) (congrArg (World.drewN _) (Nat.add_assoc _ _ _))⟩)) | (go_at_call 37; (with_reducible refine (impl_within.calls ((rd_T40 l0 x7_1).f1) ((rd_T40 l0 x7_1).f0) 9999 true _ A7.out).mono ?_); rintro e w' ⟨rfl, ⟨nd, rfl⟩⟩; (try first | exact ⟨rfl, _, World.drewN_drewN _ _ _⟩ | exact ⟨rfl, _, Eq.trans (World.drewN_drewN _ _ _) (congrArg (World.drewN _) (Nat.add_assoc _ _ _))⟩); have p277 : 0 ≤ ((ji10) : Int) := of_decide_eq_true za; have q277 : (ji10) < (l0.length : Int) := of_decide_eq_true za; obtain ⟨ad277, e277, hx277_0, hx277_1⟩ := at_T40 HR0.out (ji10) p277 q277; obtain rfl : ad273 = ad277 := (by injection e277); have hn277_0 : ad273.block ≠ gb274 := Nat.ne_of_lt (Nat.lt_of_lt_of_le (by have := World.block_lt_of_cell? _ _ hx277_0; first | rwa [add_block] at this | exact this) GW274.out); have hn277_1 : ad273.block ≠ gb274 := Nat.ne_of_lt (Nat.lt_of_lt_of_le (by have := World.block_lt_of_cell? _ _ hx277_0; first | rwa [add_block] at this | exact this) GW274.out); replace hx277_0 := zU HB.out hx277_0; replace hx277_1 := zU HB.out hx277_1; replace hx277_0 := (cell_far (p := ⟨gb274, 0, none⟩) (by first | (rw [add_block]; exact hn277_0) | (show (Addr.add _ _).block ≠ _; rw [add_block]; exact hn277_0) | exact hn277_0) (.int .i64 ((rd_T40 l0 x7_1).f0))).trans hx277_0; replace hx277_1 := (cell_far (p := ⟨gb274, 0, none⟩) (by first | (rw [add_block]; exact hn277_0) | (show (Addr.add _ _).block ≠ _; rw [add_block]; exact hn277_0) | exact hn277_0) (.int .i64 ((rd_T40 l0 x7_1).f0))).trans hx277_1; replace hx277_0 := (cell_far (p := ⟨gb274, 1, none⟩) (by first | (rw [add_block]; exact hn277_1) | (show (Addr.add _ _).block ≠ _; rw [add_block]; exact hn277_1) | exact hn277_1) (.int .i64 ((rd_T40 l0 x7_1).f1))).trans hx277_0; replace hx277_1 := (cell_far (p := ⟨gb274, 1, none⟩) (by first | (rw [add_block]; exact hn277_1) | (show (Addr.add _ _).block ≠ _; rw [add_block]; exact hn277_1) | exact hn277_1) (.int .i64 ((rd_T40 l0 x7_1).f1))).trans hx277_1; (try have hy277_0 := fun (n_ : Nat) => (show ((((w16.drewN n_).setCell ⟨gb274, 0, none⟩ (.int .i64 ((rd_T40 l0 x7_1).f0))).setCell ⟨gb274, 1, none⟩ (.int .i64 ((rd_T40 l0 x7_1).f1)))).cell? _ = some _ from hx277_0)); (try have hy277_1 := fun (n_ : Nat) => (show ((((w16.drewN n_).setCell ⟨gb274, 0, none⟩ (.int .i64 ((rd_T40 l0 x7_1).f0))).setCell ⟨gb274, 1, none⟩ (.int .i64 ((rd_T40 l0 x7_1).f1)))).cell? _ = some _ from hx277_1)); clear hn277_0; clear hn277_1; replace p277 := eq_true p277; replace q277 := eq_true q277)))
            go_roundg k1
            case measure => have := HK1.out; omega
            case rel => exact ⟨(wrap64 (x7_1 + 1)), zf, H', ⟨by have := HK1.out; omega⟩, ⟨zw HB⟩⟩
          ·rw [if_neg c12] at H
           exact absurd H (by simp)
         ·rw [if_neg c11] at H
          exact absurd H (by simp)
        ·rw [if_neg c9] at H
         have c9b0 : decide (0 < x7_1) = false := decide_eq_false c9
         clear c9
         have H' := Aside0.mk H
         clear H
         have p273 : 0 ≤ (x7_1 : Int) := of_decide_eq_true za
         have q273 : x7_1 < (l0.length : Int) := of_decide_eq_true za
         obtain ⟨ad273, e273, hx273_0, hx273_1⟩ := at_T40 HR0.out x7_1 p273 q273
         cases e273
         replace hx273_0 := zU HB.out hx273_0
         replace hx273_1 := zU HB.out hx273_1
         replace p273 := eq_true p273
         replace q273 := eq_true q273
         go_wp2_with (first | ((with_reducible refine gate_dst (N := 4) rfl ?_); refine zx (N := 4) (cs := #[.int .i64 0, .int .i64 0]) (t := 40) ?_; intro gb274 hg w18 hbox hb; have BK274 := Aside0.mk (hbox); have GW274 := zg HB hg; have GE274 := zg HB hg; replace HB := zs HB hb; clear hb hbox hg; have hcz19_0 : w18.cell? ⟨gb274, 0, none⟩ = some (.int .i64 0) := (blk_cell BK274.out 0).trans rfl; have hcz19_1 : w18.cell? ⟨gb274, 1, none⟩ = some (.int .i64 0) := (blk_cell BK274.out 1).trans rfl; have hfz19_0 := blk_frozen BK274.out 0; have hfz19_1 := blk_frozen BK274.out 1) | (go_at_call 36; (with_reducible refine (impl_isUid.calls ((rd_T40 l0 x7_1).f0) true _ A5.out).mono ?_); rintro e w' ⟨rfl, ⟨nd, rfl⟩⟩; (try first | exact ⟨rfl, _, World.drewN_drewN _ _ _⟩ | exact ⟨rfl, _, Eq.trans (World.drewN_drewN _ _ _) (congrArg (World.drewN _) (Nat.add_assoc _ _ _))⟩)) | (go_at_call 37; (with_reducible refine (impl_within.calls ((rd_T40 l0 x7_1).f1) ((rd_T40 l0 x7_1).f0) 9999 true _ A7.out).mono ?_); rintro e w' ⟨rfl, ⟨nd, rfl⟩⟩; (try first | exact ⟨rfl, _, World.drewN_drewN _ _ _⟩ | exact ⟨rfl, _, Eq.trans (World.drewN_drewN _ _ _) (congrArg (World.drewN _) (Nat.add_assoc _ _ _))⟩)))
         repeat (go_quiet (first | ((with_reducible refine gate_dst (N := 4) rfl ?_); refine zx (N := 4) (cs := #[.int .i64 0, .int .i64 0]) (t := 40) ?_; intro gb274 hg w18 hbox hb; have BK274 := Aside0.mk (hbox); have GW274 := zg HB hg; have GE274 := zg HB hg; replace HB := zs HB hb; clear hb hbox hg; have hcz19_0 : w18.cell? ⟨gb274, 0, none⟩ = some (.int .i64 0) := (blk_cell BK274.out 0).trans rfl; have hcz19_1 : w18.cell? ⟨gb274, 1, none⟩ = some (.int .i64 0) := (blk_cell BK274.out 1).trans rfl; have hfz19_0 := blk_frozen BK274.out 0; have hfz19_1 := blk_frozen BK274.out 1) | (go_at_call 36; (with_reducible refine (impl_isUid.calls ((rd_T40 l0 x7_1).f0) true _ A5.out).mono ?_); rintro e w' ⟨rfl, ⟨nd, rfl⟩⟩; (try first | exact ⟨rfl, _, World.drewN_drewN _ _ _⟩ | exact ⟨rfl, _, Eq.trans (World.drewN_drewN _ _ _) (congrArg (World.drewN _) (Nat.add_assoc _ _ _))⟩)) | (go_at_call 37; (with_reducible refine (impl_within.calls ((rd_T40 l0 x7_1).f1) ((rd_T40 l0 x7_1).f0) 9999 true _ A7.out).mono ?_); rintro e w' ⟨rfl, ⟨nd, rfl⟩⟩; (try first | exact ⟨rfl, _, World.drewN_drewN _ _ _⟩ | exact ⟨rfl, _, Eq.trans (World.drewN_drewN _ _ _) (congrArg (World.drewN _) (Nat.add_assoc _ _ _))⟩))); try go_wp2_with (first | ((with_reducible refine gate_dst (N := 4) rfl ?_); refine zx (N := 4) (cs := #[.int .i64 0, .int .i64 0]) (t := 40) ?_; intro gb274 hg w18 hbox hb; have BK274 := Aside0.mk (hbox); have GW274 := zg HB hg; have GE274 := zg HB hg; replace HB := zs HB hb; clear hb hbox hg; have hcz19_0 : w18.cell? ⟨gb274, 0, none⟩ = some (.int .i64 0) := (blk_cell BK274.out 0).trans rfl; have hcz19_1 : w18.cell? ⟨gb274, 1, none⟩ = some (.int .i64 0) := (blk_cell BK274.out 1).trans rfl; have hfz19_0 := blk_frozen BK274.out 0; have hfz19_1 := blk_frozen BK274.out 1) | (go_at_call 36; (with_reducible refine (impl_isUid.calls ((rd_T40 l0 x7_1).f0) true _ A5.out).mono ?_); rintro e w' ⟨rfl, ⟨nd, rfl⟩⟩; (try first | exact ⟨rfl, _, World.drewN_drewN _ _ _⟩ | exact ⟨rfl, _, Eq.trans (World.drewN_drewN _ _ _) (congrArg (World.drewN _) (Nat.add_assoc _ _ _))⟩)) | (go_at_call 37; (with_reducible refine (impl_within.calls ((rd_T40 l0 x7_1).f1) ((rd_T40 l0 x7_1).f0) 9999 true _ A7.out).mono ?_); rintro e w' ⟨rfl, ⟨nd, rfl⟩⟩; (try first | exact ⟨rfl, _, World.drewN_drewN _ _ _⟩ | exact ⟨rfl, _, Eq.trans (World.drewN_drewN _ _ _) (congrArg (World.drewN _) (Nat.add_assoc _ _ _))⟩))))
         go_roundg k1
         case measure => have := HK1.out; omega
         case rel => exact ⟨(wrap64 (x7_1 + 1)), zf, H', ⟨by have := HK1.out; omega⟩, ⟨zw HB⟩⟩
       ·replace c8 := Bool.eq_false_iff.mpr c8
        subst c8
        rw [if_neg (show ¬ (false = true) by decide)] at H
        obtain rfl := Option.some.inj H
        have p273 : 0 ≤ (x7_1 : Int) := of_decide_eq_true za
        have q273 : x7_1 < (l0.length : Int) := of_decide_eq_true za
        obtain ⟨ad273, e273, hx273_0, hx273_1⟩ := at_T40 HR0.out x7_1 p273 q273
        cases e273
        replace hx273_0 := zU HB.out hx273_0
        replace hx273_1 := zU HB.out hx273_1
        replace p273 := eq_true p273
        replace q273 := eq_true q273
        go_wp2_with (first | ((with_reducible refine gate_dst (N := 4) rfl ?_); refine zx (N := 4) (cs := #[.int .i64 0, .int .i64 0]) (t := 40) ?_; intro gb274 hg w20 hbox hb; have BK274 := Aside0.mk (hbox); have GW274 := zg HB hg; have GE274 := zg HB hg; replace HB := zs HB hb; clear hb hbox hg; have hcz21_0 : w20.cell? ⟨gb274, 0, none⟩ = some (.int .i64 0) := (blk_cell BK274.out 0).trans rfl; have hcz21_1 : w20.cell? ⟨gb274, 1, none⟩ = some (.int .i64 0) := (blk_cell BK274.out 1).trans rfl; have hfz21_0 := blk_frozen BK274.out 0; have hfz21_1 := blk_frozen BK274.out 1) | (go_at_call 36; (with_reducible refine (impl_isUid.calls ((rd_T40 l0 x7_1).f0) true _ A5.out).mono ?_); rintro e w' ⟨rfl, ⟨nd, rfl⟩⟩; (try first | exact ⟨rfl, _, World.drewN_drewN _ _ _⟩ | exact ⟨rfl, _, Eq.trans (World.drewN_drewN _ _ _) (congrArg (World.drewN _) (Nat.add_assoc _ _ _))⟩)) | (go_at_call 37; (with_reducible refine (impl_within.calls ((rd_T40 l0 x7_1).f1) ((rd_T40 l0 x7_1).f0) 9999 false _ A7.out).mono ?_); rintro e w' ⟨rfl, ⟨nd, rfl⟩⟩; (try first | exact ⟨rfl, _, World.drewN_drewN _ _ _⟩ | exact ⟨rfl, _, Eq.trans (World.drewN_drewN _ _ _) (congrArg (World.drewN _) (Nat.add_assoc _ _ _))⟩)))
        repeat (go_quiet (first | ((with_reducible refine gate_dst (N := 4) rfl ?_); refine zx (N := 4) (cs := #[.int .i64 0, .int .i64 0]) (t := 40) ?_; intro gb274 hg w20 hbox hb; have BK274 := Aside0.mk (hbox); have GW274 := zg HB hg; have GE274 := zg HB hg; replace HB := zs HB hb; clear hb hbox hg; have hcz21_0 : w20.cell? ⟨gb274, 0, none⟩ = some (.int .i64 0) := (blk_cell BK274.out 0).trans rfl; have hcz21_1 : w20.cell? ⟨gb274, 1, none⟩ = some (.int .i64 0) := (blk_cell BK274.out 1).trans rfl; have hfz21_0 := blk_frozen BK274.out 0; have hfz21_1 := blk_frozen BK274.out 1) | (go_at_call 36; (with_reducible refine (impl_isUid.calls ((rd_T40 l0 x7_1).f0) true _ A5.out).mono ?_); rintro e w' ⟨rfl, ⟨nd, rfl⟩⟩; (try first | exact ⟨rfl, _, World.drewN_drewN _ _ _⟩ | exact ⟨rfl, _, Eq.trans (World.drewN_drewN _ _ _) (congrArg (World.drewN _) (Nat.add_assoc _ _ _))⟩)) | (go_at_call 37; (with_reducible refine (impl_within.calls ((rd_T40 l0 x7_1).f1) ((rd_T40 l0 x7_1).f0) 9999 false _ A7.out).mono ?_); rintro e w' ⟨rfl, ⟨nd, rfl⟩⟩; (try first | exact ⟨rfl, _, World.drewN_drewN _ _ _⟩ | exact ⟨rfl, _, Eq.trans (World.drewN_drewN _ _ _) (congrArg (World.drewN _) (Nat.add_assoc _ _ _))⟩))); try go_wp2_with (first | ((with_reducible refine gate_dst (N := 4) rfl ?_); refine zx (N := 4) (cs := #[.int .i64 0, .int .i64 0]) (t := 40) ?_; intro gb274 hg w20 hbox hb; have BK274 := Aside0.mk (hbox); have GW274 := zg HB hg; have GE274 := zg HB hg; replace HB := zs HB hb; clear hb hbox hg; have hcz21_0 : w20.cell? ⟨gb274, 0, none⟩ = some (.int .i64 0) := (blk_cell BK274.out 0).trans rfl; have hcz21_1 : w20.cell? ⟨gb274, 1, none⟩ = some (.int .i64 0) := (blk_cell BK274.out 1).trans rfl; have hfz21_0 := blk_frozen BK274.out 0; have hfz21_1 := blk_frozen BK274.out 1) | (go_at_call 36; (with_reducible refine (impl_isUid.calls ((rd_T40 l0 x7_1).f0) true _ A5.out).mono ?_); rintro e w' ⟨rfl, ⟨nd, rfl⟩⟩; (try first | exact ⟨rfl, _, World.drewN_drewN _ _ _⟩ | exact ⟨rfl, _, Eq.trans (World.drewN_drewN _ _ _) (congrArg (World.drewN _) (Nat.add_assoc _ _ _))⟩)) | (go_at_call 37; (with_reducible refine (impl_within.calls ((rd_T40 l0 x7_1).f1) ((rd_T40 l0 x7_1).f0) 9999 false _ A7.out).mono ?_); rintro e w' ⟨rfl, ⟨nd, rfl⟩⟩; (try first | exact ⟨rfl, _, World.drewN_drewN _ _ _⟩ | exact ⟨rfl, _, Eq.trans (World.drewN_drewN _ _ _) (congrArg (World.drewN _) (Nat.add_assoc _ _ _))⟩))))
        go_ret
        exact ⟨ze, zw HB⟩
      ·replace c6 := Bool.eq_false_iff.mpr c6
       subst c6
       rw [if_neg (show ¬ (false = true) by decide)] at H
       obtain rfl := Option.some.inj H
       have p273 : 0 ≤ (x7_1 : Int) := of_decide_eq_true za
       have q273 : x7_1 < (l0.length : Int) := of_decide_eq_true za
       obtain ⟨ad273, e273, hx273_0, hx273_1⟩ := at_T40 HR0.out x7_1 p273 q273
       cases e273
       replace hx273_0 := zU HB.out hx273_0
       replace hx273_1 := zU HB.out hx273_1
       replace p273 := eq_true p273
       replace q273 := eq_true q273
       go_wp2_with (first | ((with_reducible refine gate_dst (N := 4) rfl ?_); refine zx (N := 4) (cs := #[.int .i64 0, .int .i64 0]) (t := 40) ?_; intro gb274 hg w22 hbox hb; have BK274 := Aside0.mk (hbox); have GW274 := zg HB hg; have GE274 := zg HB hg; replace HB := zs HB hb; clear hb hbox hg; have hcz23_0 : w22.cell? ⟨gb274, 0, none⟩ = some (.int .i64 0) := (blk_cell BK274.out 0).trans rfl; have hcz23_1 : w22.cell? ⟨gb274, 1, none⟩ = some (.int .i64 0) := (blk_cell BK274.out 1).trans rfl; have hfz23_0 := blk_frozen BK274.out 0; have hfz23_1 := blk_frozen BK274.out 1) | (go_at_call 36; (with_reducible refine (impl_isUid.calls ((rd_T40 l0 x7_1).f0) false _ A5.out).mono ?_); rintro e w' ⟨rfl, ⟨nd, rfl⟩⟩; (try first | exact ⟨rfl, _, World.drewN_drewN _ _ _⟩ | exact ⟨rfl, _, Eq.trans (World.drewN_drewN _ _ _) (congrArg (World.drewN _) (Nat.add_assoc _ _ _))⟩)))
       repeat (go_quiet (first | ((with_reducible refine gate_dst (N := 4) rfl ?_); refine zx (N := 4) (cs := #[.int .i64 0, .int .i64 0]) (t := 40) ?_; intro gb274 hg w22 hbox hb; have BK274 := Aside0.mk (hbox); have GW274 := zg HB hg; have GE274 := zg HB hg; replace HB := zs HB hb; clear hb hbox hg; have hcz23_0 : w22.cell? ⟨gb274, 0, none⟩ = some (.int .i64 0) := (blk_cell BK274.out 0).trans rfl; have hcz23_1 : w22.cell? ⟨gb274, 1, none⟩ = some (.int .i64 0) := (blk_cell BK274.out 1).trans rfl; have hfz23_0 := blk_frozen BK274.out 0; have hfz23_1 := blk_frozen BK274.out 1) | (go_at_call 36; (with_reducible refine (impl_isUid.calls ((rd_T40 l0 x7_1).f0) false _ A5.out).mono ?_); rintro e w' ⟨rfl, ⟨nd, rfl⟩⟩; (try first | exact ⟨rfl, _, World.drewN_drewN _ _ _⟩ | exact ⟨rfl, _, Eq.trans (World.drewN_drewN _ _ _) (congrArg (World.drewN _) (Nat.add_assoc _ _ _))⟩))); try go_wp2_with (first | ((with_reducible refine gate_dst (N := 4) rfl ?_); refine zx (N := 4) (cs := #[.int .i64 0, .int .i64 0]) (t := 40) ?_; intro gb274 hg w22 hbox hb; have BK274 := Aside0.mk (hbox); have GW274 := zg HB hg; have GE274 := zg HB hg; replace HB := zs HB hb; clear hb hbox hg; have hcz23_0 : w22.cell? ⟨gb274, 0, none⟩ = some (.int .i64 0) := (blk_cell BK274.out 0).trans rfl; have hcz23_1 : w22.cell? ⟨gb274, 1, none⟩ = some (.int .i64 0) := (blk_cell BK274.out 1).trans rfl; have hfz23_0 := blk_frozen BK274.out 0; have hfz23_1 := blk_frozen BK274.out 1) | (go_at_call 36; (with_reducible refine (impl_isUid.calls ((rd_T40 l0 x7_1).f0) false _ A5.out).mono ?_); rintro e w' ⟨rfl, ⟨nd, rfl⟩⟩; (try first | exact ⟨rfl, _, World.drewN_drewN _ _ _⟩ | exact ⟨rfl, _, Eq.trans (World.drewN_drewN _ _ _) (congrArg (World.drewN _) (Nat.add_assoc _ _ _))⟩))))
       go_ret
       exact ⟨ze, zw HB⟩
     ·rw [if_neg c4] at H
      exact absurd H (by simp)
    ·rw [if_neg c3] at H
     exact absurd H (by simp)
   ·rw [if_neg c2] at H
    have c2b0 : decide (x7_1 < (l0.length : Int)) = false := decide_eq_false c2
    clear c2
    obtain rfl := Option.some.inj H
    go_wp2
    repeat (go_quiet (fail); try go_wp2)
    go_ret
    exact ⟨ze, zw HB⟩

/-! ### impl_copyRanges: function 38 -/
def impl_copyRanges.f (l0 : List (S40)) : Option ((List (S40))) := (some (([] : List (S40)) : List (S40))).bind fun y278 => (if y278.length + l0.length < 8796093022208 then (some (y278 ++ l0)) else (none))
set_option maxHeartbeats 8000000 in
set_option maxRecDepth 100000 in
theorem impl_copyRanges.calls (A0 : Option Addr) (c0 : Nat) (l0 : List (S40)) (r : List (S40)) (w : World) (hr0 : Kd.C k40 w A0 l0.length l0) (hc0 : l0.length ≤ c0) (h : impl_copyRanges.f l0 = some r) :
  Calls Tryd.prog 38 #[.slice A0 l0.length c0] w fun e w' => ∃ v0_ : Value, e = .returned (v0_) ∧ Kd.R k40 40 w' w.heap.size (fun _ => True) v0_ r ∧ Below w.heap.size w w' := by
 have HR0 := Aside0.mk hr0
 have HC0 := Aside0.mk hc0
 clear hr0 hc0
 have HB := Aside0.mk (Below.refl w.heap.size w)
 have H : ((some (([] : List (S40)) : List (S40))).bind fun y278 => (if y278.length + l0.length < 8796093022208 then (some (y278 ++ l0)) else (none))) = some r := h
 clear h
 obtain ⟨y278, hy278⟩ : ∃ y_ : List (S40), y_ = (([] : List (S40))) := ⟨_, rfl⟩
 replace H : (if y278.length + l0.length < 8796093022208 then (some (y278 ++ l0)) else (none)) = some r := by first | (rw [hy278]; with_reducible exact H) | (have H2_ := (Option.bind_some _ _).symm.trans H; rw [hy278]; with_reducible exact H2_) | (have H2_ := (Option.bind_some _ _).symm.trans H; with_reducible exact H2_) | with_reducible exact H | (rw [hy278]; exact H) | exact H
 have Ny278 := Aside0.mk hy278
 clear hy278
 by_cases c2 : y278.length + l0.length < 8796093022208
 ·rw [if_pos c2] at H
  have LMc2 := Aside0.mk c2
  clear c2
  obtain ⟨y281, hy281⟩ : ∃ y_ : List (S40), y_ = (y278 ++ l0) := ⟨_, rfl⟩
  replace H : (some y281) = some r := by first | (rw [hy281]; with_reducible exact H) | (have H2_ := (Option.bind_some _ _).symm.trans H; rw [hy281]; with_reducible exact H2_) | (have H2_ := (Option.bind_some _ _).symm.trans H; with_reducible exact H2_) | with_reducible exact H | (rw [hy281]; exact H) | exact H
  have Ny281 := Aside0.mk hy281
  clear hy281
  obtain rfl := Option.some.inj H
  go_enter Tryd.func38, Tryd.ntmps38
  go_wp2_with (first | ((with_reducible refine gate_dst (N := 3) rfl ?_); refine Kd.R_lit k40 _ 40 ?hg (N := 3) ?hd (xs := ([] : List (S40))) (inner := []) (ok := fun _ => True) (okp := fun _ => True) ?hr ?hp (fun _ hk => hk) trivial (Below.refl _ _) (Nat.le_refl _) (by simp) ?_; (case hd => rfl); (case hg => rfl); (case hr => first | (go_simp; done) | (go_simp; rfl)); (case hp => exact (Reps.none _ _)); intro v279 w3 ho4 hb hg_ hnew_; clear hg_ hnew_; (first | rw [← Ny278.out] at ho4 | (simp only [Int.reduceToNat] at ho4; rw [← Ny278.out] at ho4)); have HO280 := Aside0.mk (Kd.R_lower ho4 (below_size (zw HB))); replace HB := zs HB hb; clear hb ho4) | ((with_reducible refine gate_builtin (b := .append) (xs := #[.tmp 3, .tmp 4]) rfl ?_); at_builtin; refine Kd.R_append_rows k40 (w0 := w) w.heap.size rfl (.tmp 3) (.tmp 4) 24 40 (.agg #[(.int .i64 0), (.int .i64 0)]) 16 rfl Tryd.underlying24 info40 rfl (by decide) (by omega) v279 y278 l0 _ _ _ (fun _ => True) (fun _ => False) rfl rfl ?aO ?aR (fun _ _ h => h) (fun _ h => h.elim) ?aF ?aB ?aS ?aL ?_; (case aR => exact zI (Kd.C_below HR0.out HB.out)); (case aB => exact (zw HB)); (case aF => exact (fun _ _ => trivial)); (case aO => exact (zo HO280.out)); (case aS => exact (below_size (zw HB))); (case aL => have := LMc2.out; omega); intro v282 w5 ho hb hg hat; rw [← Ny281.out] at ho; replace HB := Aside0.mk (hb); have HO283 := Aside0.mk (ho); clear HO280; clear ho hb hg hat))
  go_ret
  exact ⟨_, ze, zo HO283.out, zw HB⟩
 ·rw [if_neg c2] at H
  exact absurd H (by simp)

end Go.Proofs.YthngecooaddddaaDoor.PFnSetsTold
