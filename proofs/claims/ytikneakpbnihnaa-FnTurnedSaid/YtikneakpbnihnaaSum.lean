/- The check sum over lists of bytes: what it computes, and that it tells any one byte that is turned. -/
import Derived.Test.YtikneakpbnihnaaGen
namespace Go.Proofs.Ytikneakpbnihnaa.Gen
open Go.RowKit Go.Proofs.YtikneakpbnihnaaW.PrintWords Go.Proofs.YtikneakpbnihnaaW.PrintLast

def step1 (s : Nat) : Nat := if s % 2 = 1 then (s / 2) ^^^ 3558460437 else s / 2
def stepN : Nat → Nat → Nat
  | 0, s => s
  | m + 1, s => stepN m (step1 s)
def sumN (s : Nat) (l : List Nat) : Nat := l.foldl (fun s b => stepN 8 (s ^^^ b)) s
theorem step1_lt {s : Nat} (h : s < 4294967296) : step1 s < 4294967296 := by
  unfold step1
  split
  · exact Nat.xor_lt_two_pow (n := 32) (by omega) (by omega)
  · omega
theorem stepN_lt : ∀ (m : Nat) {s : Nat}, s < 4294967296 → stepN m s < 4294967296
  | 0, _, h => h
  | m + 1, _, h => stepN_lt m (step1_lt h)
theorem xor_lt32 {a b : Nat} (ha : a < 4294967296) (hb : b < 256) : a ^^^ b < 4294967296 := Nat.xor_lt_two_pow (n := 32) ha (by omega)
theorem sumN_lt : ∀ (l : List Nat) {s : Nat}, s < 4294967296 → (∀ x ∈ l, x < 256) → sumN s l < 4294967296
  | [], _, h, _ => h
  | b :: l, _, h, hl => sumN_lt l (stepN_lt 8 (xor_lt32 h (hl b (by simp)))) (fun x hx => hl x (by simp [hx]))
theorem sumN_cons (s b : Nat) (l : List Nat) : sumN s (b :: l) = sumN (stepN 8 (s ^^^ b)) l := rfl
theorem sumN_append (s : Nat) (l m : List Nat) : sumN s (l ++ m) = sumN (sumN s l) m := by simp [sumN, List.foldl_append]
theorem xor_top (a : Nat) (h : a < 2147483648) : 2147483648 ≤ a ^^^ 3558460437 := by
  have h1 : (a ^^^ 3558460437).testBit 31 = true := by
    rw [Nat.testBit_xor, Nat.testBit_lt_two_pow (by omega : a < 2 ^ 31)]
    decide
  exact Nat.ge_two_pow_of_testBit h1
theorem step1_inj {s t : Nat} (hs : s < 4294967296) (ht : t < 4294967296) (h : step1 s = step1 t) : s = t := by
  unfold step1 at h
  split at h <;> split at h
  · have : s / 2 = t / 2 := by
      have e := congrArg (· ^^^ 3558460437) h
      simpa [Nat.xor_assoc] using e
    omega
  · have := xor_top (s / 2) (by omega); omega
  · have := xor_top (t / 2) (by omega); omega
  · omega
theorem stepN_inj : ∀ (m : Nat) {s t : Nat}, s < 4294967296 → t < 4294967296 → stepN m s = stepN m t → s = t
  | 0, _, _, _, _, h => h
  | m + 1, _, _, hs, ht, h => step1_inj hs ht (stepN_inj m (step1_lt hs) (step1_lt ht) h)
theorem xor_left_inj {a b c : Nat} (h : a ^^^ c = b ^^^ c) : a = b := by
  have e := congrArg (· ^^^ c) h
  simpa [Nat.xor_assoc] using e
theorem xor_right_inj {a b c : Nat} (h : c ^^^ a = c ^^^ b) : a = b := by
  rw [Nat.xor_comm c a, Nat.xor_comm c b] at h
  exact xor_left_inj h
theorem sumN_inj : ∀ (l : List Nat) {s t : Nat}, s < 4294967296 → t < 4294967296 → (∀ x ∈ l, x < 256) → sumN s l = sumN t l → s = t
  | [], _, _, _, _, _, h => h
  | b :: l, s, t, hs, ht, hl, h => by
    have hb := hl b (by simp)
    rw [sumN_cons, sumN_cons] at h
    have h1 := sumN_inj l (stepN_lt 8 (xor_lt32 hs hb)) (stepN_lt 8 (xor_lt32 ht hb)) (fun x hx => hl x (by simp [hx])) h
    exact xor_left_inj (stepN_inj 8 (xor_lt32 hs hb) (xor_lt32 ht hb) h1)
/-- one byte turned: another sum -/
theorem sumN_turned {s x y : Nat} {p q : List Nat} (hs : s < 4294967296) (hp : ∀ z ∈ p, z < 256) (hq : ∀ z ∈ q, z < 256) (hx : x < 256) (hy : y < 256)
    (h : sumN s (p ++ x :: q) = sumN s (p ++ y :: q)) : x = y := by
  rw [sumN_append, sumN_append, sumN_cons, sumN_cons] at h
  have h0 := sumN_lt p hs hp
  have h1 := sumN_inj q (stepN_lt 8 (xor_lt32 h0 hx)) (stepN_lt 8 (xor_lt32 h0 hy)) hq h
  exact xor_right_inj (stepN_inj 8 (xor_lt32 h0 hx) (xor_lt32 h0 hy) h1)
/-- four bytes, the highest first -/
def four (x : Nat) : List Nat := [x / 16777216 % 256, x / 65536 % 256, x / 256 % 256, x % 256]
theorem four_lt (x : Nat) : ∀ y ∈ four x, y < 256 := by
  intro y hy
  simp only [four, List.mem_cons, List.not_mem_nil, or_false] at hy
  rcases hy with rfl | rfl | rfl | rfl <;> omega
theorem four_inj {x y : Nat} (hx : x < 4294967296) (hy : y < 4294967296) (h : four x = four y) : x = y := by
  simp only [four, List.cons.injEq, and_true] at h
  omega
def fourT (x : Nat) : ByteArray := strOfNums ((four x).map Int.ofNat)
theorem bs_fourT (x : Nat) : bs (fourT x) = four x := by
  unfold fourT
  rw [bs_nums]
  · simp [List.map_map, Function.comp_def]
  · intro y hy
    obtain ⟨z, hz, rfl⟩ := List.mem_map.1 hy
    have := four_lt x z hz
    simp only [Int.ofNat_eq_natCast]; omega
theorem fourT_size (x : Nat) : (fourT x).size = 4 := by rw [← bs_length, bs_fourT]; rfl
theorem four_nums (x : Nat) : strOfNums [((x : Int) / 16777216) % 256, ((x : Int) / 65536) % 256, ((x : Int) / 256) % 256, (x : Int) % 256] = fourT x := rfl
theorem fourT_inj {x y : Nat} (hx : x < 4294967296) (hy : y < 4294967296) (h : fourT x = fourT y) : x = y := by
  have := congrArg bs h
  rw [bs_fourT, bs_fourT] at this
  exact four_inj hx hy this
/-- the sum of a text -/
def sumT (s : ByteArray) : Nat := sumN 4294967295 (bs s)
theorem sumT_lt (s : ByteArray) : sumT s < 4294967296 := sumN_lt (bs s) (by omega) (bs_lt s)
/-- what Sealed tells -/
def sealedOut (s : ByteArray) : ByteArray × Bool := if (s.size : Int) > 20000 then (⟨#[]⟩, false) else (s ++ fourT (sumT s), true)
/-- what Unsealed tells -/
def unsealedOut (s : ByteArray) : ByteArray × Bool :=
  if 4 ≤ s.size ∧ s.size ≤ 20004 ∧ s.extract (s.size - 4) s.size = fourT (sumT (s.extract 0 (s.size - 4))) then (s.extract 0 (s.size - 4), true) else (⟨#[]⟩, false)
end Go.Proofs.Ytikneakpbnihnaa.Gen
