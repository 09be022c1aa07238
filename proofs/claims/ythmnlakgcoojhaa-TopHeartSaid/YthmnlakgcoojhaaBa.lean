/- Contracts of the tests of numbers and spans. No conditions beyond each theorem's own. -/
import Derived.Test.YthmnlakgcoojhaaProg
import Derived.Test.YthmnlakgcoojhaaAa
import Derived.Lib.Hide
set_option linter.unusedVariables false
set_option linter.unusedSimpArgs false
set_option linter.unusedSectionVars false
set_option linter.constructorNameAsVariable false
namespace Go.Proofs.Ythmnlakgcoojhaa
open Go.RowKit

set_option maxHeartbeats 400000 in
theorem within_any (n lo hi : Int) (w : World) :
    Calls Try.prog 28 #[.int .i64 n, .int .i64 lo, .int .i64 hi] w fun e w' => e = .returned (.bool (inB n lo hi)) ∧ w = w' := by
  by_cases h1 : lo ≤ n
  · by_cases h2 : n ≤ hi
    · have hb : inB n lo hi = true := by simp [inB, h1, h2]
      rw [hb]; clear hb
      go_enter Try.func28, Try.ntmps28
      go_wp2
      go_ret
      exact ⟨rfl, rfl⟩
    · have hb : inB n lo hi = false := by simp [inB, h2]
      rw [hb]; clear hb
      go_enter Try.func28, Try.ntmps28
      go_wp2
      go_ret
      exact ⟨rfl, rfl⟩
  · have hb : inB n lo hi = false := by simp [inB, h1]
    rw [hb]; clear hb
    go_enter Try.func28, Try.ntmps28
    go_wp2
    go_ret
    exact ⟨rfl, rfl⟩

set_option maxHeartbeats 400000 in
theorem sin_any (lo hi low high : Int) (w : World) :
    Calls Try.prog 29 #[.agg #[.int .i64 lo, .int .i64 hi], .int .i64 low, .int .i64 high] w fun e w' => e = .returned (.bool (spanB lo hi low high)) ∧ Below w.heap.size w w' := by
  by_cases h1 : low ≤ lo
  · by_cases h2 : lo ≤ hi
    · by_cases h3 : hi ≤ high
      · have hb : spanB lo hi low high = true := by simp [spanB, h1, h2, h3]
        rw [hb]; clear hb
        go_enter Try.func29, Try.ntmps29
        go_wp2
        go_ret
        exact ⟨rfl, (Below.refl _ _).alloc (Nat.le_refl _) _⟩
      · have hb : spanB lo hi low high = false := by simp [spanB, h3]
        rw [hb]; clear hb
        go_enter Try.func29, Try.ntmps29
        go_wp2
        go_ret
        exact ⟨rfl, (Below.refl _ _).alloc (Nat.le_refl _) _⟩
    · have hb : spanB lo hi low high = false := by simp [spanB, h2]
      rw [hb]; clear hb
      go_enter Try.func29, Try.ntmps29
      go_wp2
      go_ret
      exact ⟨rfl, (Below.refl _ _).alloc (Nat.le_refl _) _⟩
  · have hb : spanB lo hi low high = false := by simp [spanB, h1]
    rw [hb]; clear hb
    go_enter Try.func29, Try.ntmps29
    go_wp2
    go_ret
    exact ⟨rfl, (Below.refl _ _).alloc (Nat.le_refl _) _⟩

theorem within_b {b : Bool} (n lo hi : Int) (w : World) (h : inB n lo hi = b) :
    Calls Try.prog 28 #[.int .i64 n, .int .i64 lo, .int .i64 hi] w fun e w' => e = .returned (.bool b) ∧ w = w' := h ▸ within_any n lo hi w
theorem sin_b {b : Bool} (lo hi low high : Int) (w : World) (h : spanB lo hi low high = b) :
    Calls Try.prog 29 #[.agg #[.int .i64 lo, .int .i64 hi], .int .i64 low, .int .i64 high] w fun e w' => e = .returned (.bool b) ∧ Below w.heap.size w w' := h ▸ sin_any lo hi low high w

end Go.Proofs.Ythmnlakgcoojhaa
