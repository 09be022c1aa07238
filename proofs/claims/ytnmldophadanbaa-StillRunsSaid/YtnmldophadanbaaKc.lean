/- Plain words: slices of numbers and of spans in memory; curves. No conditions. -/
import Derived.Test.YtnmldophadanbaaKb
import Derived.WalkKit
set_option linter.unusedVariables false
set_option linter.unusedSimpArgs false
set_option linter.unusedSectionVars false
set_option linter.constructorNameAsVariable false
namespace Go.Proofs.Ytnmldophadanbaa
open Go.RowKit

theorem all_succ {P : Nat → Prop} {k : Nat} (h : ∀ j, j < k → P j) (hk : P k) : ∀ j, j < k + 1 → P j := fun j hj => by
  rcases Nat.lt_or_eq_of_le (Nat.lt_succ_iff.1 hj) with h' | h'
  · exact h j h'
  · rw [h']; exact hk

/-- a slice's numbers -/
def IntsAt (w : World) (a : Option Addr) (n : Nat) (L : Nat → Int) : Prop :=
  n = 0 ∨ ∃ b off, a = some ⟨b, off, none⟩ ∧ b < w.heap.size ∧ ∀ i, i < n → w.cell? ⟨b, off + i, none⟩ = some (.int .i64 (L i))
/-- a slice's spans -/
def SpansAt (w : World) (a : Option Addr) (n : Nat) (A B : Nat → Int) : Prop :=
  n = 0 ∨ ∃ b off, a = some ⟨b, off, none⟩ ∧ b < w.heap.size ∧ ∀ i, i < n → w.cell? ⟨b, off + i * 2, none⟩ = some (.int .i64 (A i)) ∧ w.cell? ⟨b, off + i * 2 + 1, none⟩ = some (.int .i64 (B i))

theorem IntsAt.below {w w' : World} {a : Option Addr} {n : Nat} {L : Nat → Int} (h : IntsAt w a n L) (hb : Below w.heap.size w w') : IntsAt w' a n L := by
  rcases h with h | ⟨b, off, rfl, hlt, hc⟩
  · exact .inl h
  · exact .inr ⟨b, off, rfl, Nat.lt_of_lt_of_le hlt hb.size, fun i hi => (hb.cell (p := ⟨b, off + i, none⟩) hlt).trans (hc i hi)⟩
theorem SpansAt.below {w w' : World} {a : Option Addr} {n : Nat} {A B : Nat → Int} (h : SpansAt w a n A B) (hb : Below w.heap.size w w') : SpansAt w' a n A B := by
  rcases h with h | ⟨b, off, rfl, hlt, hc⟩
  · exact .inl h
  · exact .inr ⟨b, off, rfl, Nat.lt_of_lt_of_le hlt hb.size, fun i hi => ⟨(hb.cell (p := ⟨b, off + i * 2, none⟩) hlt).trans (hc i hi).1, (hb.cell (p := ⟨b, off + i * 2 + 1, none⟩) hlt).trans (hc i hi).2⟩⟩

def headB (n m : Nat) (L A : Nat → Int) : Bool := inB n 2 32 && (decide (m = n) && (decide (L 0 = 0) && (decide (L (n - 1) = 10000) && decide (A 0 = 0))))
def stepB (L A B : Nat → Int) (i : Nat) : Bool := decide (L i ≤ L (i - 1)) || (decide (A i < A (i - 1)) || decide (B i < B (i - 1)))
def okB (L A B : Nat → Int) (i : Nat) : Bool := spanB (A i) (B i) (L i) 10000 && (decide (i = 0) || !stepB L A B i)
def curveB (n m : Nat) (L A B : Nat → Int) : Bool := headB n m L A && (List.range n).all (okB L A B)

theorem curveB_all {n m : Nat} {L A B : Nat → Int} (h : headB n m L A = true) (k : ∀ i, i < n → okB L A B i = true) : curveB n m L A B = true := by
  simp only [curveB, h, Bool.true_and, List.all_eq_true, List.mem_range]; exact k
theorem curveB_not {n m : Nat} {L A B : Nat → Int} {i : Nat} (hi : i < n) (k : okB L A B i = false) : curveB n m L A B = false := by
  have : (List.range n).all (okB L A B) = false := by
    rw [List.all_eq_false]; exact ⟨i, List.mem_range.2 hi, by simp [k]⟩
  simp [curveB, this]
theorem okB_span {L A B : Nat → Int} {i : Nat} (h : spanB (A i) (B i) (L i) 10000 = false) : okB L A B i = false := by simp [okB, h]
theorem okB_step {L A B : Nat → Int} {i : Nat} (hi : 0 < i) (h : stepB L A B i = true) : okB L A B i = false := by
  have : ¬ i = 0 := by omega
  simp [okB, h, this]
theorem okB_zero {L A B : Nat → Int} {i : Nat} (hi : i = 0) (h : spanB (A i) (B i) (L i) 10000 = true) : okB L A B i = true := by subst hi; simp [okB, h]
theorem okB_good {L A B : Nat → Int} {i : Nat} (h : spanB (A i) (B i) (L i) 10000 = true) (h2 : stepB L A B i = false) : okB L A B i = true := by simp [okB, h, h2]
end Go.Proofs.Ytnmldophadanbaa
