import Derived.Test.YtdiecogmaiglaaaQFnExactDoActsx0
import Derived.Test.YtdiecogmaiglaaaQFnExactDoActsx13
namespace Go.Proofs.Ytdiecogmaiglaaa.PFnExactDoActs
open Go.RowKit Go.Proofs.YtdiecogmaiglaaaW.PrintWords Go.Proofs.YtdiecogmaiglaaaW.PrintLast Go.Proofs.YtdiecogmaiglaaaW.PrintMore
attribute [local go_sem] max2_int min2_int max_two min_two max_three min_three max_four min_four   -- for this text's walks alone
set_option linter.unusedVariables false
set_option linter.unusedSimpArgs false

/-! ### impl_withFile: function 66, given by hand -/
namespace impl_withFile
open Go.Proofs.Ytdiecogmaiglaaa.Gen impl_withoutFile
theorem blk_seg {w : World} {g : Nat} {e : TypeId} {cur : Array Value} (h : w.heap[g]? = some (.cells cur e (0, 0))) {o m : Nat} {cs : List Value} (hcs : (cur.toList.drop o).take m = cs) : ∀ j v, cs[j]? = some v → w.cell? ⟨g, o + j, none⟩ = some v := by
 intro j v hj
 rw [← hcs, List.getElem?_take] at hj
 split at hj
 ·rw [List.getElem?_drop, Array.getElem?_toList] at hj
  rw [cell_of_row w g (o + j) cur e (0, 0) h, hj]
 cases hj
set_option maxHeartbeats 8000000 in
set_option maxRecDepth 100000 in
/-- slices.Insert at the end -/
theorem insert_end {ok : Nat → Prop} (v : Value) (l : List S45) (x : S45) (vb : Nat) (w : World) (base : Nat) (hr : Kd.R k45 45 w base ok v l) (hbase : base ≤ w.heap.size) (hl : l.length < 3518437208880) (hfr : ∀ k, w.heap.size ≤ k → ok k) (hvb : w.heap[vb]? = some (.cells #[.string x.f0, .string x.f1, .int .i64 x.f2] 45 (0, 0))) :
  Calls Try.prog 80 #[v, .int .i64 (l.length : Int), .slice (some ⟨vb, 0, none⟩) 1 1] w fun e w' => ∃ v', e = .returned v' ∧ Kd.R k45 45 w' base ok v' (l ++ [x]) ∧ w.grownBy w' v.ownBlock := by
 obtain ⟨i0, hi, hz0, hz1, hz2⟩ := info_parts info45
 have hown := own_of_R hr
 have hnews : ∀ j u, (fcells x)[j]? = some u → w.cell? ((⟨vb, 0, none⟩ : Addr).add j) = some u := fun j u hu => by
  rw [add_at, Nat.zero_add]
  have := blk_seg hvb (o := 0) (m := 3) (cs := fcells x) rfl j u hu
  rwa [Nat.zero_add] at this
 have hrun : ∀ ty, _ := fun ty => run_append_own_at (P := Try.prog) w base 27 ty 45 i0 _ 3 40 Try.underlying27 hi hz0 hz1 hz2 rfl (by decide) v l.length (fl l) hown ⟨vb, 0, none⟩ 1 1 (fcells x) rfl hnews (fun u hu => fl_one [x] u (by simpa [fl] using hu)) (by unfold maxLen; omega) (by omega) hbase
 obtain ⟨A, c, rfl⟩ := Kd.R_slice hr
 obtain ⟨v', w', h1, h2, h3, h4, h5⟩ := hrun 27
 have HR := Aside0.mk (show Kd.R k45 45 w' base ok v' (l ++ [x]) from R_of_own (fun k hk => by
  rcases h5 with h5 | h5
  ·exact hr.1 k (h5 ▸ hk)
  rw [h5] at hk; injection hk with hk; exact hfr k (by omega)) (by rw [List.length_append, fl_append]; simpa [fl] using h2))
 have H3 := Aside0.mk (fun q => (show w.grownBy w' (Value.slice A l.length q).ownBlock by cases A <;> exact h3))
 clear hrun hnews hown h2 h5 h4 h3
 have hz : ¬ ((1 : Int) = 0) := by decide
 go_enter Try.func80, Try.ntmps80
 go_wp2_with (at_builtin; refine Lib.wpList_append_run _ rfl _ _ _ _ rfl _ _ rfl rfl _ _ h1 ?_)
 all_goals (go_ret; exact ⟨_, rfl, HR.out, H3.out _⟩)
theorem fl_put (l : List S45) (x : S45) (i : Nat) (hi : i ≤ l.length) (cur' : List Value) (h : cur' = fl (l.take i) ++ fcells x ++ fl (l.drop i)) : cur' = fl (l.take i ++ x :: l.drop i) := by
 rw [h, fl_append, fl_cons, List.append_assoc]
set_option maxHeartbeats 8000000 in
set_option maxRecDepth 100000 in
/-- slices.Insert ahead of the end, there is room -/
theorem insert_shift {ok : Nat → Prop} (g c : Nat) (l : List S45) (x : S45) (i vb : Nat) (w : World) (base : Nat) (hr : Kd.R k45 45 w base ok (.slice (some ⟨g, 0, none⟩) l.length c) l) (hi : i < l.length) (hc : l.length + 1 ≤ c) (hne : vb ≠ g) (hfr : ∀ k, w.heap.size ≤ k → ok k) (hvb : w.heap[vb]? = some (.cells #[.string x.f0, .string x.f1, .int .i64 x.f2] 45 (0, 0))) :
  Calls Try.prog 80 #[.slice (some ⟨g, 0, none⟩) l.length c, .int .i64 (i : Int), .slice (some ⟨vb, 0, none⟩) 1 1] w fun e w' => ∃ v', e = .returned v' ∧ Kd.R k45 45 w' base ok v' (l.take i ++ x :: l.drop i) ∧ w.grownBy w' (some g) := by
 have hinfo : (Try.prog.info? 45).map (·.size) = some 3 := by kernel_rfl
 obtain ⟨cur, hbk, hcs, -, -, hcm, hbg⟩ := R_blk hr
 have hown := own_of_R hr
 have htk : cur.toList.take (l.length * 3) = fl l := by
  rcases hown.2 with ⟨hv, _⟩ | ⟨g', c', cur', hv, _, hh, _, _, _, ht⟩
  ·cases hv
  injection hv with ha _ hc'
  injection ha with ha
  injection ha with hg
  subst hg
  rw [hbk] at hh
  injection hh with hh
  injection hh with hh
  subst hh
  exact ht
 have hlen : (fl (l.drop i)).length = (l.length - i) * 3 := by rw [fl_len, List.length_drop]
 have hov : ∀ lb cb, (callFunc 88 #[.slice (some ⟨vb, 0, none⟩) 1 1, .slice (some ⟨g, (i + 1) * 3, none⟩) lb cb]).run Try.prog w = .ok (.value (.bool false)) w := fun lb cb => by
  rw [run_callFunc_extern Try.func88 (by kernel_rfl) (by kernel_rfl) (by kernel_rfl) (e := Extern.SlicesOverlaps.overlaps #[27, 27] #[4]) (by kernel_rfl),
   Lib.run_overlaps_apart w 27 4 45 Try.underlying27 3 Try.sizeOf45 ⟨vb, 0, none⟩ ⟨g, (i + 1) * 3, none⟩ 1 1 lb cb hne 45 45 3 cur.size (by simp [World.shape?, hvb]) (by simp [World.shape?, hbk]) (by rw [hcs]; omega) (blk_frozen hvb 0) (blk_frozen hvb 3)]
  rfl
 obtain ⟨W1, hW1⟩ : ∃ W1, W1 = w.drew.setCells g ((i + 1) * 3) (fl (l.drop i)) := ⟨_, rfl⟩
 obtain ⟨W2, hW2⟩ : ∃ W2, W2 = W1.setCells g (i * 3) (fcells x) := ⟨_, rfl⟩
 obtain ⟨cur1, hb1, hs1, ht1⟩ := setCells_row (fl (l.drop i)) ((i + 1) * 3) w.drew cur hbk (by rw [hlen, hcs]; omega)
 rw [← hW1] at hb1
 obtain ⟨cur2, hb2, hs2, ht2⟩ := setCells_row (fcells x) (i * 3) W1 cur1 hb1 (by show i * 3 + 3 ≤ cur1.size; rw [hs1, hcs]; omega)
 rw [← hW2] at hb2
 have hsrc : (cur.toList.drop (i * 3)).take ((l.length - i) * 3) = fl (l.drop i) := by
  rw [← fl_drop, ← htk, List.drop_take]
  congr 1
  omega
 have hcp1 : ∀ ty dc sc, (Builtin.copy_ #[27, 27] ty #[.slice (some ⟨g, (i + 1) * 3, none⟩) (l.length - i) dc, .slice (some ⟨g, i * 3, none⟩) (l.length + 1 - i) sc]).run Try.prog w.drew = .ok (goInt ((l.length - i : Nat) : Int)) W1 := fun ty dc sc => by
  have h := run_copy_many (P := Try.prog) w.drew 27 27 ty 45 3 g ((i + 1) * 3) (l.length - i) dc ⟨g, i * 3, none⟩ (l.length + 1 - i) sc (fl (l.drop i)) Try.underlying27 hinfo
   (by rw [hlen]; simp only [Nat.min_def]; split <;> omega) (fun j v hj => by rw [add_at]; exact blk_seg (w := w.drew) hbk hsrc j v hj) (fun j hj => blk_cells (w := w.drew) hbk _ (by rw [hcs]; omega)) (fun j _ => blk_frozen (w := w.drew) hbk _) (fl_one _)
  rw [← hW1] at h
  rw [h]
  congr 3
  simp only [Nat.min_def]; split <;> omega
 have hvb1 : W1.heap[vb]? = some (.cells #[.string x.f0, .string x.f1, .int .i64 x.f2] 45 (0, 0)) := by rw [hW1, setCells_far _ _ vb hne]; exact hvb
 have hcp2 : ∀ W : World, W.heap = W1.heap → ∀ ty dc, (Builtin.copy_ #[27, 27] ty #[.slice (some ⟨g, i * 3, none⟩) (l.length + 1 - i) dc, .slice (some ⟨vb, 0, none⟩) 1 1]).run Try.prog W = .ok (goInt ((1 : Nat) : Int)) (W.setCells g (i * 3) (fcells x)) := fun W hW ty dc => by
  have h := run_copy_many (P := Try.prog) W 27 27 ty 45 3 g (i * 3) (l.length + 1 - i) dc ⟨vb, 0, none⟩ 1 1 (fcells x) Try.underlying27 hinfo
   (by show 3 = _; simp only [Nat.min_def]; split <;> omega) (fun j v hj => by rw [add_at]; exact blk_seg (w := W) (by rw [hW]; exact hvb1) (o := 0) (m := 3) (cs := fcells x) rfl j v hj) (fun j hj => blk_cells (w := W) (by rw [hW]; exact hb1) _ (by have : j < 3 := hj; rw [hs1, hcs]; omega)) (fun j _ => blk_frozen (w := W) (by rw [hW]; exact hb1) _) (fun u hu => fl_one [x] u (by simpa [fl] using hu))
  rw [h]
  congr 3
  simp only [Nat.min_def]; split <;> omega
 have hfin : ∀ W : World, W.heap = W1.heap → W.os = w.os → W.tape = w.tape → W.output = w.output → Kd.R k45 45 (W.setCells g (i * 3) (fcells x)) base ok (.slice (some ⟨g, 0, none⟩) (l.length + 1) c) (l.take i ++ x :: l.drop i) ∧ w.grownBy (W.setCells g (i * 3) (fcells x)) (some g) := fun W hW ho ht hout => by
  obtain ⟨cur3, hb3, hs3, ht3⟩ := setCells_row (fcells x) (i * 3) W cur1 (by rw [hW]; exact hb1) (by show i * 3 + 3 ≤ cur1.size; rw [hs1, hcs]; omega)
  have hll : (l.take i ++ x :: l.drop i).length = l.length + 1 := by rw [List.length_append, List.length_take, List.length_cons, List.length_drop]; omega
  refine ⟨R_of_own (fun k hk => hr.1 k hk) ⟨fl_len _, .inr ⟨g, c, cur3, by rw [hll], hbg, hb3, by omega, hcm, by rw [hs3, hs1, hcs], ?_⟩⟩, grown_trans ?_ (grown_setCells W g _ _)⟩
  ·rw [hll, ht3, ht1]
   have ha : cur.toList.length = c * 3 := by rw [Array.length_toList, hcs]
   have e1 : (cur.toList.take ((i + 1) * 3) ++ fl (l.drop i) ++ cur.toList.drop ((i + 1) * 3 + (fl (l.drop i)).length)).take (i * 3) = fl (l.take i) := by
    rw [List.append_assoc, List.take_append_of_le_length (by rw [List.length_take]; omega), List.take_take, Nat.min_eq_left (by omega), ← fl_take, ← htk, List.take_take, Nat.min_eq_left (by omega)]
   have e2 : (cur.toList.take ((i + 1) * 3) ++ fl (l.drop i) ++ cur.toList.drop ((i + 1) * 3 + (fl (l.drop i)).length)).drop (i * 3 + (fcells x).length) = fl (l.drop i) ++ cur.toList.drop ((i + 1) * 3 + (fl (l.drop i)).length) := by
    rw [List.append_assoc]
    exact List.drop_left' (by rw [List.length_take]; show _ = i * 3 + 3; omega)
   rw [e1, e2, fl_append, fl_cons, ← List.append_assoc, ← List.append_assoc]
   exact List.take_left' (by rw [List.length_append, List.length_append, hlen, fl_len, List.length_take]; show _ + 3 + _ = _; omega)
  exact ⟨ho, ht, hout, by rw [hW, hW1]; exact Nat.le_of_eq (setCells_same g _ _ w.drew).2.2.2.symm, fun k _ hk => by rw [hW, hW1]; exact setCells_far (w := w.drew) _ _ k (fun e => hk (by rw [e]))⟩
 have HFIN := Aside0.mk hfin
 have hz : ¬ ((1 : Int) = 0) := by decide
 have hz2 : ¬ ((i : Int) = (l.length : Int)) := by omega
 have hb2' : ¬ (c = i + 1) := by omega
 have hb4 : ¬ (c = i) := by omega
 have hb3 : (i : Int) ≤ (l.length : Int) + 1 := by omega
 have hin : i ≤ l.length := by omega
 have mixed : Try.prog.follows .mixedOrders = true := by kernel_rfl
 have hw1 : IntKind.i64.wrap ((i : Int) + 1) = (i : Int) + 1 := by rw [IntKind.wrap_i64]; unfold maxLen at hcm; omega
 have hp1 : (0 : Int) ≤ (i : Int) + 1 := by omega
 have htn : ((i : Int) + 1).toNat = i + 1 := by omega
 have hmax : c ≤ 9223372036854775807 := hcm
 clear hfin hcs hbk hown htk hlen hb1 hs1 ht1 hb2 hs2 ht2 hsrc hvb1 hr hvb
 go_enter Try.func80, Try.ntmps80
 go_wp2_with (simp only [hov])
 go_region_law_o (refine step_copy_runI rfl _ _ 27 27 rfl _ _ (by simp [Act.eval, Act.put]) (by simp [Act.eval, Act.put]) (hcp1 _ _ _) ?_)
 go_wp2_with (at_builtin; refine wpList_copy_runI _ rfl _ _ 27 27 rfl _ _ rfl rfl (hcp2 _ rfl _ _) ?_)
 go_ret
 have hsm := setCells_same g (fl (l.drop i)) ((i + 1) * 3) w.drew
 have hf := HFIN.out W1 rfl (by rw [hW1]; exact hsm.1) (by rw [hW1]; exact hsm.2.1) (by rw [hW1]; exact hsm.2.2.1)
 rw [hW1] at hf
 exact ⟨_, rfl, hf.1, hf.2⟩
set_option maxHeartbeats 8000000 in
set_option maxRecDepth 100000 in
/-- slices.Insert ahead of the end, no room -/
theorem insert_grow {ok : Nat → Prop} (g c : Nat) (l : List S45) (x : S45) (i vb : Nat) (w : World) (base : Nat) (hr : Kd.R k45 45 w base ok (.slice (some ⟨g, 0, none⟩) l.length c) l) (hbase : base ≤ w.heap.size) (hi : i < l.length) (hc : c < l.length + 1) (hl : l.length < 3518437208880) (hfr : ∀ k, w.heap.size ≤ k → ok k) (hvb : w.heap[vb]? = some (.cells #[.string x.f0, .string x.f1, .int .i64 x.f2] 45 (0, 0))) :
  Calls Try.prog 80 #[.slice (some ⟨g, 0, none⟩) l.length c, .int .i64 (i : Int), .slice (some ⟨vb, 0, none⟩) 1 1] w fun e w' => ∃ v', e = .returned v' ∧ Kd.R k45 45 w' base ok v' (l.take i ++ x :: l.drop i) ∧ w.grownBy w' (some g) := by
 have hinfo : (Try.prog.info? 45).map (·.size) = some 3 := by kernel_rfl
 obtain ⟨i0, hi0, hz0, hz1, hz2⟩ := info_parts info45
 obtain ⟨cur, hbk, hcs, -, hlc, hcm, hbg⟩ := R_blk hr
 have hown := own_of_R hr
 have htk : cur.toList.take (l.length * 3) = fl l := by
  rcases hown.2 with ⟨hv, _⟩ | ⟨g', c', cur', hv, _, hh, _, _, _, ht⟩
  ·cases hv
  injection hv with ha _ hc'
  injection ha with ha
  injection ha with hg
  subst hg
  rw [hbk] at hh
  injection hh with hh
  injection hh with hh
  subst hh
  exact ht
 have hlen : (fl (l.drop i)).length = (l.length - i) * 3 := by rw [fl_len, List.length_drop]
 have hlt : (fl (l.take i)).length = i * 3 := by rw [fl_len, List.length_take, Nat.min_eq_left (by omega)]
 have hglt := blk_lt hbk
 have hvlt := blk_lt hvb
 have hold : (Builtin.firstCells i0.size i (.slice (some ⟨g, 0, none⟩) i c)).run Try.prog w.drew = .ok (fl (l.take i)).toArray w.drew := by
  rw [hz1]
  refine run_firstCells_some w.drew 3 i ⟨g, 0, none⟩ i c (fl (l.take i)) (by rw [hlt]) (fun j v hj => ?_)
  rw [add_at]
  refine blk_seg (w := w.drew) hbk (o := 0) (m := i * 3) ?_ j v hj
  rw [List.drop_zero, ← fl_take, ← htk, List.take_take, Nat.min_eq_left (by omega)]
 have hik : i + (l.length + 1 - i) = l.length + 1 := by omega
 have hrz : ∀ ty, (Builtin.append_ #[27, 3] ty #[.slice (some ⟨g, 0, none⟩) i c, .int .i64 ((l.length : Int) + 1 - (i : Int))]).run Try.prog w =
   .ok (.slice (some ⟨w.heap.size, 0, none⟩) (l.length + 1) (grownCap w (l.length + 1) c 45)) (w.drew.alloc (.cells ((fl (l.take i)).toArray ++ Builtin.zeroCells (Value.agg #[.string ⟨#[]⟩, .string ⟨#[]⟩, .int .i64 0]).cells (l.length + 1 - i) ++ Builtin.zeroCells (Value.agg #[.string ⟨#[]⟩, .string ⟨#[]⟩, .int .i64 0]).cells (grownCap w (l.length + 1) c 45 - (l.length + 1))) 45)) := fun ty => by
  have h := Lib.run_append_grow_zeros w 27 3 ty 45 i0 _ .i64 .i64 Try.underlying27 Try.underlying3 hi0 hz0 (some ⟨g, 0, none⟩) i c (fl (l.take i)) hold (l.length + 1 - i) (by omega) (by omega) (by omega) (by omega) (by rw [hz2]; omega) (by rw [hz2, hik]; exact growslice_fits hc (by omega))
  rw [hik] at h
  rw [show (l.length : Int) + 1 - (i : Int) = ((l.length + 1 - i : Nat) : Int) by omega]
  exact h
 obtain ⟨G, hG⟩ : ∃ G, G = grownCap w (l.length + 1) c 45 := ⟨_, rfl⟩
 obtain ⟨ROW, hROW⟩ : ∃ ROW : Array Value, ROW = (fl (l.take i)).toArray ++ Builtin.zeroCells (Value.agg #[.string ⟨#[]⟩, .string ⟨#[]⟩, .int .i64 0]).cells (l.length + 1 - i) ++ Builtin.zeroCells (Value.agg #[.string ⟨#[]⟩, .string ⟨#[]⟩, .int .i64 0]).cells (G - (l.length + 1)) := ⟨_, rfl⟩
 rw [← hG, ← hROW] at hrz
 have hGn : l.length + 1 ≤ G := by rw [hG]; exact grownCap_ge w _ _ _
 have hG63 : G ≤ maxLen := by rw [hG]; exact grownCap_le_maxLen w (l.length + 1) c 45 (by unfold maxLen; omega)
 have hRl : ROW.toList = fl (l.take i) ++ (fl (List.replicate (l.length + 1 - i) z45) ++ fl (List.replicate (G - (l.length + 1)) z45)) := by
  rw [hROW, Array.toList_append, Array.toList_append, zeros_fl, zeros_fl, List.append_assoc]
 have hRs : ROW.size = G * 3 := by
  rw [← Array.length_toList, hRl, List.length_append, List.length_append, hlt, fl_len, fl_len, List.length_replicate, List.length_replicate]
  omega
 obtain ⟨N, hN⟩ : ∃ N, N = w.heap.size := ⟨_, rfl⟩
 have hgN : g ≠ N := by omega
 have hvN : vb ≠ N := by omega
 obtain ⟨W1, hW1⟩ : ∃ W1, W1 = w.drew.alloc (.cells ROW 45) := ⟨_, rfl⟩
 have hbN : W1.heap[N]? = some (.cells ROW 45 (0, 0)) := by rw [hW1, hN]; exact blk_new w.drew _
 have hbg1 : W1.heap[g]? = some (.cells cur 45 (0, 0)) := by rw [hW1]; exact blk_alloc (w := w.drew) hbk _
 have hbv1 : W1.heap[vb]? = some (.cells #[.string x.f0, .string x.f1, .int .i64 x.f2] 45 (0, 0)) := by rw [hW1]; exact blk_alloc (w := w.drew) hvb _
 obtain ⟨W2, hW2⟩ : ∃ W2, W2 = W1.setCells N (i * 3) (fcells x) := ⟨_, rfl⟩
 obtain ⟨cur2, hb2, hs2, ht2⟩ := setCells_row (fcells x) (i * 3) W1 ROW hbN (by show i * 3 + 3 ≤ ROW.size; rw [hRs]; omega)
 rw [← hW2] at hb2
 have hbg2 : W2.heap[g]? = some (.cells cur 45 (0, 0)) := by rw [hW2, setCells_far _ _ g hgN]; exact hbg1
 have hcpA : ∀ W : World, W.heap = W1.heap → ∀ ty dc, (Builtin.copy_ #[27, 27] ty #[.slice (some ⟨N, i * 3, none⟩) (l.length + 1 - i) dc, .slice (some ⟨vb, 0, none⟩) 1 1]).run Try.prog W = .ok (goInt ((1 : Nat) : Int)) (W.setCells N (i * 3) (fcells x)) := fun W hW ty dc => by
  have h := run_copy_many (P := Try.prog) W 27 27 ty 45 3 N (i * 3) (l.length + 1 - i) dc ⟨vb, 0, none⟩ 1 1 (fcells x) Try.underlying27 hinfo
   (by show 3 = _; simp only [Nat.min_def]; split <;> omega) (fun j v hj => by rw [add_at]; exact blk_seg (w := W) (by rw [hW]; exact hbv1) (o := 0) (m := 3) (cs := fcells x) rfl j v hj) (fun j hj => blk_cells (w := W) (by rw [hW]; exact hbN) _ (by have : j < 3 := hj; rw [hRs]; omega)) (fun j _ => blk_frozen (w := W) (by rw [hW]; exact hbN) _) (fun u hu => fl_one [x] u (by simpa [fl] using hu))
  rw [h]
  congr 3
  simp only [Nat.min_def]; split <;> omega
 have hsrc : (cur.toList.drop (i * 3)).take ((l.length - i) * 3) = fl (l.drop i) := by
  rw [← fl_drop, ← htk, List.drop_take]
  congr 1
  omega
 have hcpB : ∀ W : World, W.heap = W2.heap → ∀ ty dc sc, (Builtin.copy_ #[27, 27] ty #[.slice (some ⟨N, (i + 1) * 3, none⟩) (l.length - i) dc, .slice (some ⟨g, i * 3, none⟩) (l.length - i) sc]).run Try.prog W = .ok (goInt ((l.length - i : Nat) : Int)) (W.setCells N ((i + 1) * 3) (fl (l.drop i))) := fun W hW ty dc sc => by
  have h := run_copy_many (P := Try.prog) W 27 27 ty 45 3 N ((i + 1) * 3) (l.length - i) dc ⟨g, i * 3, none⟩ (l.length - i) sc (fl (l.drop i)) Try.underlying27 hinfo
   (by rw [hlen]; simp only [Nat.min_def]; split <;> omega) (fun j v hj => by rw [add_at]; exact blk_seg (w := W) (by rw [hW]; exact hbg2) hsrc j v hj) (fun j hj => blk_cells (w := W) (by rw [hW]; exact hb2) _ (by rw [hs2, hRs]; omega)) (fun j _ => blk_frozen (w := W) (by rw [hW]; exact hb2) _) (fl_one _)
  rw [h]
  congr 3
  simp only [Nat.min_def]; split <;> omega
 have hfin : ∀ W : World, W.heap = W2.heap → W.os = w.os → W.tape = w.tape → W.output = w.output → Kd.R k45 45 (W.setCells N ((i + 1) * 3) (fl (l.drop i))) base ok (.slice (some ⟨N, 0, none⟩) (l.length + 1) G) (l.take i ++ x :: l.drop i) ∧ w.grownBy (W.setCells N ((i + 1) * 3) (fl (l.drop i))) (some g) := fun W hW ho ht hout => by
  obtain ⟨cur3, hb3, hs3, ht3⟩ := setCells_row (fl (l.drop i)) ((i + 1) * 3) W cur2 (by rw [hW]; exact hb2) (by rw [hlen, hs2, hRs]; omega)
  have hll : (l.take i ++ x :: l.drop i).length = l.length + 1 := by rw [List.length_append, List.length_take, List.length_cons, List.length_drop]; omega
  refine ⟨R_of_own (fun k hk => by
   have hk2 : N = k := by simpa [Value.ownBlock] using hk
   exact hfr k (by omega)) ⟨fl_len _, .inr ⟨N, G, cur3, by rw [hll], by omega, hb3, by omega, hG63, by rw [hs3, hs2, hRs], ?_⟩⟩, ?_⟩
  ·rw [hll, ht3, ht2, hRl]
   have e1 : ((fl (l.take i) ++ (fl (List.replicate (l.length + 1 - i) z45) ++ fl (List.replicate (G - (l.length + 1)) z45))).take (i * 3) ++ fcells x ++ (fl (l.take i) ++ (fl (List.replicate (l.length + 1 - i) z45) ++ fl (List.replicate (G - (l.length + 1)) z45))).drop (i * 3 + (fcells x).length)).take ((i + 1) * 3) = fl (l.take i) ++ fcells x := by
    rw [List.take_left' hlt, List.append_assoc, ← List.append_assoc]
    exact List.take_left' (by rw [List.length_append, hlt]; show i * 3 + 3 = _; omega)
   have e3 : (fl (l.take i) ++ fcells x ++ fl (l.drop i)).length = (l.length + 1) * 3 := by
    rw [List.length_append, List.length_append, hlen, hlt]; show i * 3 + 3 + _ = _; omega
   rw [e1, fl_append, fl_cons, ← List.append_assoc (fl (l.take i)) (fcells x)]
   exact List.take_left' e3
  have hheap : ∀ k, k < w.heap.size → (W.setCells N ((i + 1) * 3) (fl (l.drop i))).heap[k]? = w.heap[k]? := fun k hk => by
   rw [setCells_far _ _ k (by omega), hW, hW2, setCells_far _ _ k (by omega), hW1]
   exact Below.heap_alloc w.drew _ k hk
  have hsz : w.heap.size ≤ (W.setCells N ((i + 1) * 3) (fl (l.drop i))).heap.size := by
   rw [(setCells_same N _ _ W).2.2.2, hW, hW2, (setCells_same N _ _ W1).2.2.2, hW1]
   simp
  exact ⟨(setCells_same N _ _ W).1.trans ho, (setCells_same N _ _ W).2.1.trans ht, (setCells_same N _ _ W).2.2.1.trans hout, hsz, fun k hk _ => hheap k hk⟩
 have HFIN := Aside0.mk hfin
 have hz : ¬ ((1 : Int) = 0) := by decide
 have hzi : ¬ ((i : Int) = (l.length : Int)) := by omega
 have hz3 : (c : Int) < (l.length : Int) + 1 := by omega
 have hGi : ¬ (G = i) := by omega
 have hGi1 : ¬ (G = i + 1) := by omega
 have hci : ¬ (c = i) := by omega
 have hin : i ≤ l.length := by omega
 have hin3 : (i : Int) ≤ (l.length : Int) := by omega
 have mixed : Try.prog.follows .mixedOrders = true := by kernel_rfl
 have hw1 : IntKind.i64.wrap ((i : Int) + 1) = (i : Int) + 1 := by rw [IntKind.wrap_i64]; omega
 have hp1 : (0 : Int) ≤ (i : Int) + 1 := by omega
 have htn : ((i : Int) + 1).toNat = i + 1 := by omega
 have hmax : G ≤ 9223372036854775807 := hG63
 subst hN
 clear hG hROW hfin hcs hbk hown htk hlen hbN hbg1 hbv1 hb2 hs2 ht2 hbg2 hsrc hr hvb hRl hRs hold hlt hik
 go_enter Try.func80, Try.ntmps80
 go_wp2_with (first
  | (at_builtin; refine Lib.wpList_append_run _ rfl _ _ _ _ rfl _ _ rfl rfl _ _ (hrz _) ?_)
  | (at_builtin; refine wpList_copy_runI _ rfl _ _ 27 27 rfl _ _ rfl rfl (hcpA _ (by rw [hW1]; rfl) _ _) ?_))
 go_region_law_o (refine step_copy_runI rfl _ _ 27 27 rfl (.slice (some ⟨w.heap.size, (i + 1) * 3, none⟩) (l.length - i) (G - (i + 1))) (.slice (some ⟨g, i * 3, none⟩) (l.length - i) (c - i)) (by simp [Act.eval, Act.put]) (by simp [Act.eval, Act.put]) (hcpB _ (by rw [hW2, hW1]; rfl) 3 (G - (i + 1)) (c - i)) ?_)
 go_wp2
 go_ret
 have hsm := setCells_same w.heap.size (fcells x) (i * 3) (w.alloc (.cells ROW 45)).drew
 have hf := HFIN.out ((w.alloc (.cells ROW 45)).drew.setCells w.heap.size (i * 3) (fcells x)).drew (by rw [hW2, hW1]; rfl) hsm.1 hsm.2.1 hsm.2.2.1
 exact ⟨_, rfl, hf.1, hf.2⟩
/-- slices.Insert of one file -/
theorem insert {ok : Nat → Prop} (v : Value) (l : List S45) (x : S45) (i vb : Nat) (w : World) (base : Nat) (hr : Kd.R k45 45 w base ok v l) (hbase : base ≤ w.heap.size) (hi : i ≤ l.length) (hl : l.length < 3518437208880) (hne : ∀ k, v.ownBlock = some k → vb ≠ k) (hfr : ∀ k, w.heap.size ≤ k → ok k) (hvb : w.heap[vb]? = some (.cells #[.string x.f0, .string x.f1, .int .i64 x.f2] 45 (0, 0))) :
  Calls Try.prog 80 #[v, .int .i64 (i : Int), .slice (some ⟨vb, 0, none⟩) 1 1] w fun e w' => ∃ v', e = .returned v' ∧ Kd.R k45 45 w' base ok v' (l.take i ++ x :: l.drop i) ∧ w.grownBy w' v.ownBlock := by
 by_cases he : i = l.length
 ·subst he
  rw [List.take_length, List.drop_length]
  exact insert_end v l x vb w base hr hbase hl hfr hvb
 rcases (own_of_R hr).2 with ⟨hv, h0⟩ | ⟨g, c, cur, rfl, _⟩
 ·omega
 by_cases hc : l.length + 1 ≤ c
 ·exact insert_shift g c l x i vb w base hr (by omega) hc (hne g rfl) hfr hvb
 exact insert_grow g c l x i vb w base hr hbase (by omega) (by omega) hl hfr hvb
end impl_withFile
/-- a file in its place -/
def impl_withFile.ins (x : S45) : List S45 → List S45
 | [] => [x]
 | y :: l => if Op.bytesLess y.f0.toList x.f0.toList = true then y :: impl_withFile.ins x l else x :: y :: l
def impl_withFile.f (l0_0 : List S45) (a1_0 : ByteArray) (a1_1 : ByteArray) (a1_2 : Int) : Option (List S45) := if l0_0.length < 3518437208880 then some (impl_withFile.ins ⟨a1_0, a1_1, a1_2⟩ (impl_withoutFile.keep a1_0 l0_0)) else none
/-- behind the loop -/
theorem impl_withFile.tail (A0_0 : Option Addr) (c0_0 : Nat) (l0_0 : List S45) (a1_0 : ByteArray) (a1_1 : ByteArray) (a1_2 : Int) (w W0 w1 wr : World) (Av : Option Addr) (cv : Nat) (m : List S45) (i : Nat)
  (hb0 : Below w.heap.size w W0) (hs0 : W0.heap.size = w.heap.size + 3) (hby : W0.heap[w.heap.size + 1 + 1]? = some (.cells #[.slice none 0 0] 29 (0, 0))) (hR : Kd.R k45 45 wr W0.heap.size (fun k => k ≠ w1.heap.size) (.slice Av m.length cv) m)
  (hG : wr.heap[w1.heap.size]? = some (.cells #[.slice Av m.length cv] 29 (0, 0))) (hB : Below W0.heap.size W0 wr) (hs1 : W0.heap.size ≤ w1.heap.size) (hsz : w1.heap.size + 1 ≤ wr.heap.size) (him : i ≤ m.length) (hml : m.length < 3518437208880) (L : List S45) (hL : m.take i ++ ⟨a1_0, a1_1, a1_2⟩ :: m.drop i = L) :
  (Calls Try.prog 80 #[.slice Av m.length cv, .int .i64 (i : Int), .slice (some ⟨wr.heap.size, 0, none⟩) 1 1] (wr.drew.alloc (.cells #[.string a1_0, .string a1_1, .int .i64 a1_2] 45)) fun e w3 => ∃ A3 c3, e = .returned (.slice A3 L.length c3) ∧
   w3.cell? ⟨w1.heap.size, 0, none⟩ = some (.slice Av m.length cv) ∧ w3.frozen? ⟨w1.heap.size, 0, none⟩ = false ∧ w3.cell? ⟨w.heap.size + 1 + 1, 0, none⟩ = some (.slice none 0 0) ∧ w3.frozen? ⟨w.heap.size + 1 + 1, 0, none⟩ = false ∧
   (((w3.setCell ⟨w1.heap.size, 0, none⟩ (.slice A3 L.length c3)).setCell ⟨w.heap.size + 1 + 1, 0, none⟩ (.slice A3 L.length c3)).heap[w.heap.size + 1 + 1]? = some (.cells #[.slice A3 L.length c3] 29 (0, 0)) ∧
    Kd.R k45 45 ((w3.setCell ⟨w1.heap.size, 0, none⟩ (.slice A3 L.length c3)).setCell ⟨w.heap.size + 1 + 1, 0, none⟩ (.slice A3 L.length c3)) w.heap.size (fun _ => True) (.slice A3 L.length c3) L ∧
    Below w.heap.size w ((w3.setCell ⟨w1.heap.size, 0, none⟩ (.slice A3 L.length c3)).setCell ⟨w.heap.size + 1 + 1, 0, none⟩ (.slice A3 L.length c3)))) ∧ True := by
 refine ⟨?_, trivial⟩
 have hsB := hB.size
 have hsA : (wr.drew.alloc (.cells #[.string a1_0, .string a1_1, .int .i64 a1_2] 45)).heap.size = wr.heap.size + 1 := by simp
 have hlt : ∀ k, (Value.slice Av m.length cv).ownBlock = some k → k ≠ w1.heap.size ∧ W0.heap.size ≤ k ∧ k < wr.heap.size := fun k hk => by
  have := (Kd.R_bound hR).1 k hk
  exact ⟨this.1, this.2.1, this.2.2.1⟩
 refine (impl_withFile.insert (.slice Av m.length cv) m ⟨a1_0, a1_1, a1_2⟩ i wr.heap.size (wr.drew.alloc (.cells #[.string a1_0, .string a1_1, .int .i64 a1_2] 45)) W0.heap.size (ok := fun k => k ≠ w1.heap.size) (Kd.R_alloc (Kd.R_drew hR) _) (by omega) him hml (fun k hk => by have := (hlt k hk).2.2; omega) (fun k hk => by omega) (blk_new wr.drew _)).mono ?_
 rintro e w3 ⟨v3, rfl, hR3, hg3⟩
 rw [hL] at hR3
 obtain ⟨A3, c3, rfl⟩ := Kd.R_slice hR3
 have hg : w3.heap[w1.heap.size]? = some (.cells #[.slice Av m.length cv] 29 (0, 0)) :=
  (hg3.block w1.heap.size (by omega) (fun e => (hlt _ e.symm).1 rfl)).trans (blk_alloc (blk_drew hG) _)
 have hy : w3.heap[w.heap.size + 1 + 1]? = some (.cells #[.slice none 0 0] 29 (0, 0)) :=
  (hg3.block (w.heap.size + 1 + 1) (by omega) (fun e => by have := (hlt _ e.symm).2.1; omega)).trans (blk_alloc (blk_drew (blk_below hby hB)) _)
 have hne : w.heap.size + 1 + 1 ≠ w1.heap.size := by omega
 have hbW : Below w.heap.size w w3 := by
  refine ⟨hg3.os.trans (hB.os.trans hb0.os), hg3.tape.trans (hB.tape.trans hb0.tape), hg3.output.trans (hB.output.trans hb0.output), by have := hg3.size; omega, fun k hk => ?_⟩
  rw [hg3.block k (by omega) (fun e => by have := (hlt _ e.symm).2.1; omega), Below.heap_alloc wr.drew _ k (by show k < wr.heap.size; omega)]
  exact (hB.block k (by omega)).trans (hb0.block k hk)
 refine ⟨A3, c3, rfl, (blk_cell hg 0).trans rfl, blk_frozen hg 0, (blk_cell hy 0).trans rfl, blk_frozen hy 0, blk_put (cs := #[.slice none 0 0]) (blk_far hy hne _) 0 _ rfl, ?_, below_set (below_set hbW (by omega)) (by omega)⟩
 exact Kd.R_mono (Kd.R_far (p := ⟨w.heap.size + 1 + 1, 0, none⟩) (Kd.R_far (p := ⟨w1.heap.size, 0, none⟩) (Kd.R_lower (Kd.R_bound hR3) (by omega)) (fun k hk => hk.1) _) (fun k hk => by have := hk.2.1; show k ≠ w.heap.size + 1 + 1; omega) _) (fun _ _ => trivial)
set_option maxHeartbeats 8000000 in
set_option maxRecDepth 100000 in
theorem impl_withFile.calls (A0_0 : Option Addr) (c0_0 : Nat) (l0_0 : List S45) (a1_0 : ByteArray) (a1_1 : ByteArray) (a1_2 : Int) (r : List S45) (w : World) (hr0_0 : Kd.C k45 w A0_0 l0_0.length l0_0) (hc0_0 : l0_0.length ≤ c0_0) (h : impl_withFile.f l0_0 a1_0 a1_1 a1_2 = some r) :
  Calls Try.prog 66 #[.agg #[.slice A0_0 l0_0.length c0_0], .agg #[.string a1_0, .string a1_1, .int .i64 a1_2]] w fun e w' => ∃ v0_ : Value, e = .returned (.agg #[v0_]) ∧ Kd.R k45 45 w' w.heap.size (fun _ => True) v0_ r ∧ Below w.heap.size w w' := by
 unfold impl_withFile.f at h
 by_cases hl : l0_0.length < 3518437208880
 case neg => rw [if_neg hl] at h; cases h
 rw [if_pos hl] at h
 obtain rfl := Option.some.inj h
 clear h
 have hwf : impl_withoutFile.f l0_0 a1_0 = some (impl_withoutFile.keep a1_0 l0_0) := by unfold impl_withoutFile.f; rw [if_pos hl]
 have hkl : (impl_withoutFile.keep a1_0 l0_0).length ≤ l0_0.length := List.length_filter_le _ _
 generalize hm : impl_withoutFile.keep a1_0 l0_0 = m at hwf hkl ⊢
 clear hm
 obtain ⟨W0, hW0⟩ : ∃ W0, W0 = ((w.alloc (.cells #[.slice A0_0 l0_0.length c0_0] 29)).alloc (.cells #[.string a1_0, .string a1_1, .int .i64 a1_2] 45)).alloc (.cells #[.slice none 0 0] 29) := ⟨_, rfl⟩
 have hb0 : Below w.heap.size w W0 := by rw [hW0]; exact below_alloc (below_alloc (below_alloc (Below.refl _ _) _) _) _
 have hs0 : W0.heap.size = w.heap.size + 3 := by rw [hW0]; simp
 have hbx : W0.heap[w.heap.size + 1]? = some (.cells #[.string a1_0, .string a1_1, .int .i64 a1_2] 45 (0, 0)) := by rw [hW0]; exact blk_alloc (by have := blk_new (w.alloc (.cells #[.slice A0_0 l0_0.length c0_0] 29)) (.cells #[.string a1_0, .string a1_1, .int .i64 a1_2] 45 (0, 0)); simpa using this) _
 have hby : W0.heap[w.heap.size + 1 + 1]? = some (.cells #[.slice none 0 0] 29 (0, 0)) := by rw [hW0]; have := blk_new ((w.alloc (.cells #[.slice A0_0 l0_0.length c0_0] 29)).alloc (.cells #[.string a1_0, .string a1_1, .int .i64 a1_2] 45)) (.cells #[.slice none 0 0] 29 (0, 0)); simpa using this
 have hwo := impl_withoutFile.calls A0_0 c0_0 l0_0 a1_0 m W0 (Kd.C_below hr0_0 hb0) hc0_0 hwf
 rw [hW0] at hwo
 have HB0 := Aside0.mk hb0
 have HBX := Aside0.mk hbx
 have HBY := Aside0.mk hby
 clear hr0_0 hc0_0 hwf hb0 hbx hby
 go_enter Try.func66, Try.ntmps66
 go_wp2_with (go_at_call 67; refine hwo.mono ?_; rintro e w1 ⟨v0, rfl, hR, hb1⟩; rw [← hW0] at hR hb1; obtain ⟨Av, cv, hv⟩ := Kd.R_slice hR; subst hv)
 have HR1 := Aside0.mk hR
 have HB1 := Aside0.mk hb1
 clear hR hwo
 have hs1 := hb1.size
 clear hb1
 go_loopg [6] m.length (fun gg s6 wr => ∃ i : Nat, s6 = .int .i64 i ∧ i ≤ m.length ∧ m.length - i ≤ gg ∧ Aside0 (Kd.R k45 45 wr W0.heap.size (fun k => k ≠ w1.heap.size) (.slice Av m.length cv) m) ∧ Aside0 (wr.heap[w1.heap.size]? = some (.cells #[.slice Av m.length cv] 29 (0, 0))) ∧ Aside0 (Below W0.heap.size W0 wr) ∧ w1.heap.size + 1 ≤ wr.heap.size ∧ Aside0 (impl_withFile.ins ⟨a1_0, a1_1, a1_2⟩ m = m.take i ++ impl_withFile.ins ⟨a1_0, a1_1, a1_2⟩ (m.drop i)))
 case atStart => exact ⟨0, rfl, by omega, by omega, ⟨Kd.R_mono (Kd.R_alloc (Kd.R_bound HR1.out) _) (fun k hk => by have := hk.2.2.1; omega)⟩, ⟨blk_new _ _⟩, ⟨below_alloc HB1.out _⟩, by simp, ⟨rfl⟩⟩
 case round =>
  obtain ⟨i, rfl, him, hgg, HR, HG, HB, hsz, HI⟩ := hrel
  have hc5 : wr.cell? ⟨w1.heap.size, 0, none⟩ = some (.slice Av m.length cv) := (blk_cell HG.out 0).trans rfl
  have hbx2 := blk_below HBX.out HB.out
  have hc3 : wr.cell? ⟨w.heap.size + 1, 0, none⟩ = some (.string a1_0) := (blk_cell hbx2 0).trans rfl
  have hc31 : wr.cell? ⟨w.heap.size + 1, 1, none⟩ = some (.string a1_1) := (blk_cell hbx2 1).trans rfl
  have hc32 : wr.cell? ⟨w.heap.size + 1, 2, none⟩ = some (.int .i64 a1_2) := (blk_cell hbx2 2).trans rfl
  clear hbx2
  have HEND := Aside0.mk (impl_withFile.tail A0_0 c0_0 l0_0 a1_0 a1_1 a1_2 w W0 w1 wr Av cv m i HB0.out hs0 HBY.out HR.out HG.out HB.out hs1 hsz him (by omega) (impl_withFile.ins ⟨a1_0, a1_1, a1_2⟩ m))
  have hmax : m.length ≤ 9223372036854775807 := by omega
  by_cases hlt : i < m.length
  ·have hltz : (i : Int) < (m.length : Int) := by omega
   rcases (impl_withoutFile.own_of_R HR.out).2 with ⟨hv, h0⟩ | ⟨g, c, cur, hv, hgb, -⟩
   ·omega
   injection hv with ha _ hc
   subst ha; subst hc
   obtain ⟨ad, ea, hx0, -, -⟩ := at_T45 (Kd.R_reads' HR.out).2.2 (i : Int) (by omega) hltz
   cases ea
   have hMi : rd_T45 m (i : Int) = m[i] := by
    unfold rd_T45
    rw [Int.toNat_natCast, List.getD_eq_getElem?_getD, List.getElem?_eq_getElem hlt]; rfl
   rw [hMi] at hx0
   simp only [add_at, Nat.zero_add, Int.toNat_natCast] at hx0
   clear hMi
   have HD := Aside0.mk (List.drop_eq_getElem_cons hlt)
   have HT := Aside0.mk (List.take_succ_eq_append_getElem hlt)
   generalize m[i] = y at hx0 HD HT
   by_cases hq : Op.bytesLess y.f0.toList a1_0.toList = true
   ·go_wp2
    go_region
    go_wp2
    go_roundg (m.length - (i + 1))
    case measure => omega
    case rel =>
     refine ⟨i + 1, by go_num, by omega, Nat.le_refl _, ⟨Kd.R_drew HR.out⟩, ⟨blk_drew HG.out⟩, ⟨below_drew1 HB.out⟩, hsz, ⟨?_⟩⟩
     rw [HI.out, HD.out, impl_withFile.ins, if_pos (show Op.bytesLess y.f0.toList (⟨a1_0, a1_1, a1_2⟩ : S45).f0.toList = true from hq), HT.out, List.append_assoc]
     rfl
   have HINS : Aside0 (impl_withFile.ins ⟨a1_0, a1_1, a1_2⟩ m = m.take i ++ ⟨a1_0, a1_1, a1_2⟩ :: m.drop i) := ⟨by
    rw [HI.out, HD.out, impl_withFile.ins, if_neg (show ¬ Op.bytesLess y.f0.toList (⟨a1_0, a1_1, a1_2⟩ : S45).f0.toList = true from hq)]⟩
   go_wp2
   go_region
   go_wp2_with (go_at_call 80; refine (HEND.out HINS.out.symm).1.mono ?_; rintro e w3 ⟨A3, c3, rfl, h3⟩; have z0 := h3.1; have z1 := h3.2.1; have z2 := h3.2.2.1; have z3 := h3.2.2.2.1; have h4 := Aside0.mk h3.2.2.2.2; clear h3)
   obtain ⟨q1, q2, q3⟩ := h4.out
   refine bodyPost_ret (results_cell_row rfl _ _ (w.heap.size + 1 + 1) 29 #[.slice A3 (impl_withFile.ins ⟨a1_0, a1_1, a1_2⟩ m).length c3] (0, 0) _ rfl q1 Try.underlying29 rfl (by kernel_rfl)) rfl ?_
   exact ⟨_, rfl, q2, q3⟩
  obtain rfl : i = m.length := by omega
  have HINS : Aside0 (impl_withFile.ins ⟨a1_0, a1_1, a1_2⟩ m = m.take m.length ++ ⟨a1_0, a1_1, a1_2⟩ :: m.drop m.length) := ⟨by
   rw [HI.out, List.drop_length]; rfl⟩
  have hltz : ¬ ((m.length : Int) < (m.length : Int)) := by omega
  have hltz2 : decide ((m.length : Int) < (m.length : Int)) = false := decide_eq_false hltz
  go_wp2
  go_region
  go_wp2_with (go_at_call 80; refine (HEND.out HINS.out.symm).1.mono ?_; rintro e w3 ⟨A3, c3, rfl, h3⟩; have z0 := h3.1; have z1 := h3.2.1; have z2 := h3.2.2.1; have z3 := h3.2.2.2.1; have h4 := Aside0.mk h3.2.2.2.2; clear h3)
  obtain ⟨q1, q2, q3⟩ := h4.out
  refine bodyPost_ret (results_cell_row rfl _ _ (w.heap.size + 1 + 1) 29 #[.slice A3 (impl_withFile.ins ⟨a1_0, a1_1, a1_2⟩ m).length c3] (0, 0) _ rfl q1 Try.underlying29 rfl (by kernel_rfl)) rfl ?_
  exact ⟨_, rfl, q2, q3⟩

end Go.Proofs.Ytdiecogmaiglaaa.PFnExactDoActs
