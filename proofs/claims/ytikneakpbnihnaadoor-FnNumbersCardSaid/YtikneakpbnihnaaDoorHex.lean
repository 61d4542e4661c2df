/- The figures of bytes. -/
import Derived.Test.YtikneakpbnihnaaDoorGen
import Derived.Lib.Bytealg
namespace Go.Proofs.YtikneakpbnihnaaDoor.Gen
open Go.RowKit Go.Proofs.YtikneakpbnihnaaDoorW.PrintWords Go.Proofs.YtikneakpbnihnaaDoorW.PrintLast

def fig (x : Nat) : Nat := if x < 10 then 48 + x else 87 + x
def hexN (l : List Nat) : List Nat := l.flatMap fun c => [fig (c / 16), fig (c % 16)]
theorem hexN_cons (c : Nat) (l : List Nat) : hexN (c :: l) = fig (c / 16) :: fig (c % 16) :: hexN l := rfl
theorem hexN_length (l : List Nat) : (hexN l).length = 2 * l.length := by
  induction l with
  | nil => rfl
  | cons c l ih => rw [hexN_cons]; simp [ih]; omega
theorem fig_lt {x : Nat} (h : x < 16) : fig x < 256 := by unfold fig; split <;> omega
theorem hexN_lt (l : List Nat) (h : ∀ x ∈ l, x < 256) : ∀ x ∈ hexN l, x < 256 := by
  intro x hx
  obtain ⟨c, hc, hx⟩ := List.mem_flatMap.1 hx
  have := h c hc
  simp only [List.mem_cons, List.not_mem_nil, or_false] at hx
  rcases hx with rfl | rfl
  · exact fig_lt (by omega)
  · exact fig_lt (by omega)
theorem fig_const : ∀ x : Fin 16, bt (⟨#[48, 49, 50, 51, 52, 53, 54, 55, 56, 57, 97, 98, 99, 100, 101, 102]⟩ : ByteArray) ((x.val : Nat) : Int) = (fig x.val : Int) := by decide
theorem fig_bt {x : Nat} (h : x < 16) : bt (⟨#[48, 49, 50, 51, 52, 53, 54, 55, 56, 57, 97, 98, 99, 100, 101, 102]⟩ : ByteArray) (x : Int) = (fig x : Int) := fig_const ⟨x, h⟩

/-- a figure's value; -1 of what is none -/
def unfig (c : Nat) : Int := if 48 ≤ c ∧ c ≤ 57 then (c : Int) - 48 else if 97 ≤ c ∧ c ≤ 102 then (c : Int) - 87 else -1
theorem unfig_range (c : Nat) : -1 ≤ unfig c ∧ unfig c ≤ 15 := by
  unfold unfig
  split
  · omega
  · split <;> omega
theorem unfig_index_fin : ∀ c : Fin 256, Lib.indexByte [48, 49, 50, 51, 52, 53, 54, 55, 56, 57, 97, 98, 99, 100, 101, 102] (c.val.toUInt8) = unfig c.val := by decide +kernel
theorem unfig_index {c : Nat} (h : c < 256) : Lib.indexByte (⟨#[48, 49, 50, 51, 52, 53, 54, 55, 56, 57, 97, 98, 99, 100, 101, 102]⟩ : ByteArray).data.toList ((c : Int).toNat.toUInt8) = unfig c := unfig_index_fin ⟨c, h⟩
theorem unfig_fig_fin : ∀ x : Fin 16, unfig (fig x.val) = (x.val : Int) := by decide
theorem unfig_fig {x : Nat} (h : x < 16) : unfig (fig x) = (x : Int) := unfig_fig_fin ⟨x, h⟩
def unhexN : List Nat → Option (List Int)
  | [] => some []
  | [_] => none
  | a :: b :: l => if unfig a < 0 ∨ unfig b < 0 then none else (unhexN l).map ((16 * unfig a + unfig b) :: ·)
theorem unhexN_hexN (l : List Nat) (h : ∀ x ∈ l, x < 256) : unhexN (hexN l) = some (l.map Int.ofNat) := by
  induction l with
  | nil => rfl
  | cons c l ih =>
    have hc := h c (by simp)
    rw [hexN_cons]
    simp only [unhexN]
    rw [unfig_fig (show c / 16 < 16 by omega), unfig_fig (show c % 16 < 16 by omega), if_neg (by omega), ih (fun x hx => h x (by simp [hx]))]
    simp only [Option.map_some, List.map_cons]
    congr 2
    simp only [Int.ofNat_eq_natCast]; omega
/-- what Unhex tells -/
def unhexOut (s : ByteArray) : ByteArray × Bool :=
  if s.size % 2 = 0 ∧ s.size ≤ 40000 then
    match unhexN (bs s) with
    | none => (⟨#[]⟩, false)
    | some ys => (strOfNums ys, true)
  else (⟨#[]⟩, false)
theorem indexByte_none (l : List UInt8) (c : UInt8) : Lib.indexByte l c < 0 ↔ (l.map UInt8.toNat).contains c.toNat = false := by
  induction l with
  | nil => simp [Lib.indexByte]
  | cons b l ih =>
    have hg := Lib.indexByte_ge l c
    simp only [Lib.indexByte, List.map_cons, List.contains_cons, Bool.or_eq_false_iff]
    by_cases h : b = c
    · subst h; simp
    · have h1 : (b == c) = false := by simpa using h
      have h2 : (c.toNat == b.toNat) = false := by
        rw [beq_eq_false_iff_ne]; intro e; exact h (UInt8.toNat_inj.1 e.symm)
      rw [h1, h2]
      simp only [Bool.false_eq_true, if_false, true_and]
      rw [← ih]
      by_cases h3 : Lib.indexByte l c = -1
      · rw [h3]; simp
      · have h4 : (Lib.indexByte l c == -1) = false := by simpa using h3
        rw [h4]; simp only [Bool.false_eq_true, if_false]; omega
end Go.Proofs.YtikneakpbnihnaaDoor.Gen
