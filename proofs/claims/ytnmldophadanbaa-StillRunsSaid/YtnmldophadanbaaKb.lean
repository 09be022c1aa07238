/- Plain words of the still: tests and numbers as functions of integers. No conditions. -/
import Derived.WalkKit
set_option linter.unusedVariables false
set_option linter.unusedSimpArgs false
set_option linter.unusedSectionVars false
set_option linter.constructorNameAsVariable false
namespace Go.Proofs.Ytnmldophadanbaa

/-- low ≤ n ≤ high -/
def inB (n low high : Int) : Bool := decide (low ≤ n) && decide (n ≤ high)
/-- a span within limits -/
def spanB (lo hi low high : Int) : Bool := decide (low ≤ lo) && (decide (lo ≤ hi) && decide (hi ≤ high))

theorem inB_t {n low high : Int} : inB n low high = true ↔ low ≤ n ∧ n ≤ high := by simp [inB]
theorem spanB_t {lo hi low high : Int} : spanB lo hi low high = true ↔ low ≤ lo ∧ lo ≤ hi ∧ hi ≤ high := by simp [spanB]
theorem inB_f {n low high : Int} : inB n low high = false ↔ ¬ (low ≤ n ∧ n ≤ high) := by rw [← inB_t]; simp
theorem spanB_f {lo hi low high : Int} : spanB lo hi low high = false ↔ ¬ (low ≤ lo ∧ lo ≤ hi ∧ hi ≤ high) := by rw [← spanB_t]; simp
/-- (a + b - 1) / b -/
def upI (a b : Int) : Int := (a + b - 1) / b
theorem upI_nonneg {a b : Int} (ha : 0 ≤ a) (hb : 1 ≤ b) : 0 ≤ upI a b := Int.ediv_nonneg (by omega) (by omega)
theorem upI_le {a b c : Int} (hb : 1 ≤ b) (h : a ≤ c * b) : upI a b ≤ c := by
  unfold upI
  have : a + b - 1 < (c + 1) * b := by rw [Int.add_mul]; omega
  have := Int.ediv_lt_of_lt_mul (by omega) this
  omega
theorem le_upI {a b : Int} (hb : 1 ≤ b) : a ≤ upI a b * b := by
  unfold upI
  have := Int.emod_add_mul_ediv (a + b - 1) b
  have h2 := Int.emod_lt_of_pos (a + b - 1) (show 0 < b by omega)
  rw [Int.mul_comm]; omega
end Go.Proofs.Ytnmldophadanbaa
