/- Disks as lists of files: what is right, what is kept. -/
import Derived.Test.YtdiecogmaiglaaaGen
namespace Go.Proofs.Ytdiecogmaiglaaa.Gen
open Go.RowKit

structure Fl where
  n : ByteArray
  t : ByteArray
  k : Int
/-- a name in order behind another -/
def ordB (p : Option ByteArray) (n : ByteArray) : Bool := match p with | none => true | some q => Op.bytesLess q.toList n.toList
/-- right, behind a file of this name (none: at the beginning) -/
def diskOkL : Option ByteArray → List Fl → Bool
  | _, [] => true
  | p, f :: l => decide ((1 ≤ (f.n.size : Int) ∧ (f.n.size : Int) ≤ 8) ∧ (f.t.size : Int) ≤ 20000 ∧ (0 ≤ f.k ∧ f.k ≤ (f.t.size : Int))) && ordB p f.n && diskOkL (some f.n) l
def diskOkB (l : List Fl) : Bool := decide ((l.length : Int) ≤ 30) && diskOkL none l
def keptB (l : List Fl) : Bool := l.all fun f => decide (f.k = (f.t.size : Int))
def allKeptB (l : List Fl) : Bool := keptB l && diskOkB l
theorem diskOkL_cons {p : Option ByteArray} {f : Fl} {l : List Fl} (h : diskOkL p (f :: l) = true) :
    ((1 ≤ (f.n.size : Int) ∧ (f.n.size : Int) ≤ 8) ∧ (f.t.size : Int) ≤ 20000 ∧ (0 ≤ f.k ∧ f.k ≤ (f.t.size : Int))) ∧ (∀ q, p = some q → Op.bytesLess q.toList f.n.toList = true) ∧ diskOkL (some f.n) l = true := by
  simp only [diskOkL, Bool.and_eq_true, decide_eq_true_eq] at h
  refine ⟨h.1.1, ?_, h.2⟩
  rintro q rfl
  exact h.1.2
theorem diskOkL_mem : ∀ {l : List Fl} {p : Option ByteArray}, diskOkL p l = true → ∀ f ∈ l, (1 ≤ (f.n.size : Int) ∧ (f.n.size : Int) ≤ 8) ∧ (f.t.size : Int) ≤ 20000 ∧ (0 ≤ f.k ∧ f.k ≤ (f.t.size : Int))
  | [], _, _, f, hf => by cases hf
  | g :: l, p, h, f, hf => by
    obtain ⟨h1, _, h3⟩ := diskOkL_cons h
    rcases List.mem_cons.1 hf with rfl | hf
    · exact h1
    · exact diskOkL_mem h3 f hf
end Go.Proofs.Ytdiecogmaiglaaa.Gen
