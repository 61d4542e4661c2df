/- '[]byte(s)': a row of the call's own whose block bears the mark of a conversion: the words of the print's 'Kd.R' for it. -/
import Derived.Test.YtikneakpbnihnaaProg
import Derived.Test.YtikneakpbnihnaaWWords
import Derived.Laws.IdiomStrings
import Derived.Lib.ConvBytes
import Derived.Lib.AtoiErrMem
set_option linter.unusedVariables false
namespace Go.Proofs.Ytikneakpbnihnaa.Bytes
open Go.RowKit Go.Proofs.YtikneakpbnihnaaW.PrintWords
def RB (d : Kd Int) (e : Nat) (w : World) (base : Nat) (ok : Nat → Prop) (v : Value) (xs : List Int) : Prop :=
  ∃ g cap, v = .slice (some ⟨g, 0, none⟩) xs.length cap ∧ base ≤ g ∧ g < w.heap.size ∧ (∃ cells, ∃ fz : Nat × Nat, w.heap[g]? = some (.cells cells e fz) ∧ fz.2 ≠ 0) ∧ xs.length ≤ 9223372036854775807 ∧
    ∀ j, j < xs.length → w.cell? ⟨g, j, none⟩ = some (.int .u8 (xs.getD j 0)) ∧ w.frozen? ⟨g, j, none⟩ = false
variable {d : Kd Int} {e base g n cap : Nat} {w w1 W : World} {ok : Nat → Prop} {v : Value} {xs : List Int}
theorem RB_lower {base' : Nat} (h : RB d e w base ok v xs) (hb : base' ≤ base) : RB d e w base' ok v xs := by
  obtain ⟨g, cap, h1, h2, h3⟩ := h
  exact ⟨g, cap, h1, Nat.le_trans hb h2, h3⟩
theorem RB_below (h : RB d e w base ok v xs) (hb : Below w.heap.size w w1) : RB d e w1 base ok v xs := by
  obtain ⟨g, cap, h1, h2, h3, hz, h4, h5⟩ := h
  refine ⟨g, cap, h1, h2, Nat.lt_of_lt_of_le h3 hb.size, by rw [hb.block g h3]; exact hz, h4, fun j hj => ?_⟩
  have hg : (⟨g, j, none⟩ : Addr).block < w.heap.size := h3
  rw [hb.cell hg, hb.frozen hg]
  exact h5 j hj
theorem RB_alloc (h : RB d e w base ok v xs) (o : Obj) : RB d e (w.alloc o) base ok v xs := RB_below h (below_alloc (Below.refl _ _) o)
theorem RB_drew (h : RB d e w base ok v xs) : RB d e w.drew base ok v xs := RB_below h (below_drew (Below.refl _ _))
theorem RB_drewN (h : RB d e w base ok v xs) (m : Nat) : RB d e (w.drewN m) base ok v xs := RB_below h (pw_below_drewN (Below.refl _ _) m)
theorem RB_slice (h : RB d e w base ok v xs) : ∃ A c, v = .slice A xs.length c := by
  obtain ⟨g, cap, h1, _⟩ := h
  exact ⟨_, _, h1⟩
theorem RB_reads' {A : Option Addr} {n c : Nat} (h : RB d e w base ok (.slice A n c) xs) : n = xs.length ∧ True ∧ (Kd.int .u8).C w A xs.length xs := by
  obtain ⟨g, cap, h1, _, _, _, h4, h5⟩ := h
  injection h1 with ha hn hc
  subst ha
  refine ⟨hn, trivial, Kd.C_of_reads (enc := Value.int .u8) (d := (0 : Int)) (h1 := fun _ => rfl) ⟨rfl, h4, fun _ => ⟨_, rfl, fun j hj => ?_⟩⟩⟩
  have : (⟨g, 0, none⟩ : Addr).add j = ⟨g, j, none⟩ := add_plain g j
  rw [this]
  exact (h5 j hj).1
theorem RB_form (h : RB d e w base ok v xs) (hp : 0 < xs.length) : ∃ g cap, v = .slice (some ⟨g, 0, none⟩) xs.length cap ∧ base ≤ g ∧ g < w.heap.size ∧ ∃ cells, ∃ fz : Nat × Nat, w.heap[g]? = some (.cells cells e fz) ∧ fz.2 ≠ 0 := by
  obtain ⟨g, cap, h1, h2, h3, hz, _⟩ := h
  exact ⟨g, cap, h1, h2, h3, hz⟩
theorem RB_celln (d0 : Int) (h : RB d e w base ok (.slice (some ⟨g, 0, none⟩) n cap) xs) (i : Int) (h0 : 0 ≤ i) (hi : i < n) : w.cell? ⟨g, i.toNat, none⟩ = some (.int .u8 (rd xs i)) ∧ w.frozen? ⟨g, i.toNat, none⟩ = false := by
  obtain ⟨g', cap', h1, _, _, _, _, h5⟩ := h
  injection h1 with ha hn hc
  injection ha with ha
  injection ha with ha
  subst ha
  subst hn
  exact h5 i.toNat (by omega)
theorem RB_putg (h : RB d e W base ok (.slice (some ⟨g, 0, none⟩) n cap) xs) (i : Int) (x : Int) : RB d e (W.setCell ⟨g, i.toNat, none⟩ (.int .u8 x)) base ok (.slice (some ⟨g, 0, none⟩) n cap) (xs.set i.toNat x) ∧ W.grownBy (W.setCell ⟨g, i.toNat, none⟩ (.int .u8 x)) (some g) := by
  obtain ⟨g', cap', h1, h2, h3, hz, h4, h5⟩ := h
  injection h1 with ha hn hc
  injection ha with ha
  injection ha with ha
  subst ha
  subst hn
  refine ⟨⟨g, cap, by rw [List.length_set], h2, by simpa [World.setCell] using h3, ?_, by rw [List.length_set]; exact h4, fun j hj => ?_⟩, ?_⟩
  · obtain ⟨cells, fz, hc, hf⟩ := hz
    refine ⟨cells.set! i.toNat (.int .u8 x), fz, ?_, hf⟩
    simp [World.setCell, Array.getElem?_modify, hc]
  · rw [List.length_set] at hj
    rw [World.frozen?_setCell]
    refine ⟨?_, (h5 j hj).2⟩
    by_cases hji : i.toNat = j
    · subst hji
      rw [World.cell?_setCell_same _ _ _ (h5 _ hj).1, List.getD_eq_getElem?_getD, List.getElem?_set_self hj]; rfl
    · rw [World.cell?_setCell_other _ _ _ _ (by first | (simp; done) | (simp; exact hji)), (h5 j hj).1, List.getD_eq_getElem?_getD, List.getD_eq_getElem?_getD, List.getElem?_set_ne hji]
  · refine ⟨rfl, rfl, rfl, by simp [World.setCell], fun k hk hne => ?_⟩
    simp only [World.setCell, Array.getElem?_modify]
    rw [if_neg (fun e => hne (by rw [e]))]
theorem RB_putn (h : RB d e W base ok (.slice (some ⟨g, 0, none⟩) n cap) xs) (i : Int) (x : Int) : RB d e (W.setCell ⟨g, i.toNat, none⟩ (.int .u8 x)) base ok (.slice (some ⟨g, 0, none⟩) n cap) (xs.set i.toNat x) := (RB_putg h i x).1
theorem RB_string {P : Program} {src dst e2 : TypeId} (hs : P.underlying src = some (.slice e2)) (he : P.underlying e2 = some (.int .u8)) (hd : P.underlying dst = some .string) (h : RB d e w base ok v xs) : (convert src dst v).run P w = .ok (.string (strOfNums xs)) w := by
  obtain ⟨g, cap, rfl, _, _, _, _, h5⟩ := h
  exact run_convert_bytes_arg w src e2 hs he g 0 xs.length cap xs rfl (fun i hi => by rw [Nat.zero_add]; exact (h5 i hi).1) dst hd
/-- another row, by its block's mark: it is none of a block that a conversion has laid -/
theorem R_marked {α : Type} {d' : Kd α} {e' : Nat} {ys : List α} (h : d'.R e' w base ok v ys) {g t : Nat} {cells : Array Value} (hb : ∃ fz : Nat × Nat, w.heap[g]? = some (.cells cells t fz) ∧ fz.2 ≠ 0) (_ht : True) : d'.R e' w base (fun k => ok k ∧ k ≠ g) v ys :=
  Kd.R_mono (Kd.R_bound h) (fun k hk => ⟨hk.1, by
    obtain ⟨_, _, _, q, hq, cells', hc⟩ := hk
    obtain ⟨fz, hb, hf⟩ := hb
    rintro rfl
    rw [hc] at hb
    injection hb with hb
    injection hb with _ _ hb
    exact hf (by rw [← hb])⟩)
section
variable {P : Program} {ops : Array Oper} {rest : List Oper} {o : Oper} {a : Act} {Q : Exit → Act → World → Prop}
/-- the conversion, as a step of a walk -/
theorem RB_bytes {N : Tmp} {w0 W : World} (base e : Nat) (hgd : o.guard = none) (hd : o.dst = some N) (src dst : TypeId) (x : Operand) (ho : o.op = .convert src dst x) (s : ByteArray) (hx : a.eval x = .string s)
    (hs : P.underlying src = some .string) (ht : P.underlying dst = some (.slice e)) (he : P.underlying e = some (.int .u8)) (HB : Below base w0 W) (hbase : base ≤ W.heap.size) (hmax : s.size ≤ 9223372036854775807)
    (h : ∀ v1 w1, RB (Kd.int .u8) e w1 base (fun _ => True) v1 (bytesOf s) → Below base w0 w1 → True → True → wpList P ops Q rest (a.put o.dst v1) w1) : wpList P ops Q (o :: rest) a W := by
  have hl : (bytesOf s).length = s.size := bytesOf_length s
  have hb := Lib.bytesWorld_below W e s
  refine Kd.event_run (w1 := Lib.bytesWorld W e s) (v := .slice (some ⟨W.heap.size, 0, none⟩) s.size (grownCap W s.size 0 e)) hgd ?_ (h _ _ ⟨W.heap.size, grownCap W s.size 0 e, by rw [hl], hbase, ?_, ⟨_, _, Lib.bytesWorld_at_new W e s, by simp⟩, by rw [hl]; exact hmax, fun j hj => ?_⟩ ?_ trivial trivial)
  · have := Lib.run_convert_string_bytes (P := P) W src dst e s hs ht he
    simp [execOp, ho, hx, this]
  · rw [Lib.bytesWorld_size]; omega
  · rw [hl] at hj
    refine ⟨?_, ?_⟩
    · rw [Lib.bytesWorld_cell W e s j hj]
      congr 2
      unfold bytesOf
      rw [List.getD_eq_getElem?_getD, List.getD_eq_getElem?_getD, List.getElem?_map]
      cases (s.data.toList)[j]? <;> rfl
    · unfold World.frozen?
      rw [Lib.bytesWorld_at_new]
      have : s.size ≤ (Lib.bytesCells W e s).size := by
        rcases Nat.lt_or_ge (Lib.bytesCells W e s).size s.size with h | h
        · have := Lib.bytesWorld_cell W e s (Lib.bytesCells W e s).size h
          simp [World.cell?, Lib.bytesWorld_at_new] at this
        · exact h
      simp
      omega
  · exact HB.trans ⟨hb.os, hb.tape, hb.output, hb.size, fun i hi => hb.block i (Nat.lt_of_lt_of_le hi hbase)⟩
end
end Go.Proofs.Ytikneakpbnihnaa.Bytes
