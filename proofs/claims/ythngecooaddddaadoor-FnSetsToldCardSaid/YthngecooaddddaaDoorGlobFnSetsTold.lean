/- What the walks ask of the library's package-level variables, and that it stays so. -/
import Derived.Test.YthngecooaddddaaDoorProg
import Derived.Below
import Derived.Lib.LaidTab
import Derived.Lib.ItoaNum
namespace Go.Proofs.YthngecooaddddaaDoor
open Go.RowKit
structure GlobOk (w : World) : Prop where
  ml : ∃ m, w.cell? ⟨0, 0, none⟩ = some (.int .i64 m)
theorem tabIs_below {P : Program} {w W : World} {n : String} {k : IntKind} {zs : List Int} (h : Lib.TabIs P w n k zs) (hb : Below w.heap.size w W) : Lib.TabIs P W n k zs := by
  unfold Lib.TabIs World.var? at *
  cases hg : P.globalNamed n with
  | none => simp [hg] at h
  | some g =>
    simp only [hg, Option.bind_some] at h ⊢
    have hlt : g < w.heap.size := by
      rcases Nat.lt_or_ge g w.heap.size with h' | h'
      · exact h'
      · simp [Array.getElem?_eq_none h'] at h
    rw [hb.block g hlt]
    exact h
theorem GlobOk.of {w W : World} (h : GlobOk w) (hb : Below w.heap.size w W) : GlobOk W :=
  ⟨(by obtain ⟨m, hm⟩ := h.ml; exact ⟨m, (hb.cell (p := ⟨0, 0, none⟩) (World.block_lt_of_cell? w _ hm)).trans hm⟩)⟩
end Go.Proofs.YthngecooaddddaaDoor
