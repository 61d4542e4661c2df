/- The figures of bytes. -/
import Derived.Test.YtflmjokjheddiaaGen
namespace Go.Proofs.Ytflmjokjheddiaa.Gen
open Go.RowKit Go.Proofs.YtflmjokjheddiaaW.PrintWords Go.Proofs.YtflmjokjheddiaaW.PrintLast

def fig (x : Nat) : Nat := if x < 10 then 48 + x else 87 + x
def hexN (l : List Nat) : List Nat := l.flatMap fun c => [fig (c / 16), fig (c % 16)]
theorem hexN_cons (c : Nat) (l : List Nat) : hexN (c :: l) = fig (c / 16) :: fig (c % 16) :: hexN l := rfl
theorem hexN_length (l : List Nat) : (hexN l).length = 2 * l.length := by
  induction l with
  | nil => rfl
  | cons c l ih => rw [hexN_cons]; simp [ih]; omega
theorem fig_lt {x : Nat} (h : x < 16) : fig x < 256 := by unfold fig; split <;> omega
theorem hexN_lt (l : List Nat) (h : ∀ x ∈ l, x < 256) : ∀ x ∈ hexN l, x < 256 := by
  intro x hx
  obtain ⟨c, hc, hx⟩ := List.mem_flatMap.1 hx
  have := h c hc
  simp only [List.mem_cons, List.not_mem_nil, or_false] at hx
  rcases hx with rfl | rfl
  · exact fig_lt (by omega)
  · exact fig_lt (by omega)
theorem fig_const : ∀ x : Fin 16, bt (⟨#[48, 49, 50, 51, 52, 53, 54, 55, 56, 57, 97, 98, 99, 100, 101, 102]⟩ : ByteArray) ((x.val : Nat) : Int) = (fig x.val : Int) := by decide
theorem fig_bt {x : Nat} (h : x < 16) : bt (⟨#[48, 49, 50, 51, 52, 53, 54, 55, 56, 57, 97, 98, 99, 100, 101, 102]⟩ : ByteArray) (x : Int) = (fig x : Int) := fig_const ⟨x, h⟩
end Go.Proofs.Ytflmjokjheddiaa.Gen
