/- Contracts of isPot, the two ends of a span, need. No conditions beyond each theorem's own. -/
import Derived.Test.YtnmldophadanbaaWb
set_option linter.unusedVariables false
set_option linter.unusedSimpArgs false
set_option linter.unusedSectionVars false
set_option linter.constructorNameAsVariable false
namespace Go.Proofs.Ytnmldophadanbaa
open Go.RowKit

theorem within_b {b : Bool} (n lo hi : Int) (w : World) (h : inB n lo hi = b) :
    Calls Try.prog 50 #[.int .i64 n, .int .i64 lo, .int .i64 hi] w fun e w' => e = .returned (.bool b) ∧ w = w' := h ▸ within_any n lo hi w
theorem isSpan_b {b : Bool} (lo hi low high : Int) (w : World) (h : spanB lo hi low high = b) :
    Calls Try.prog 49 #[.agg #[.int .i64 lo, .int .i64 hi], .int .i64 low, .int .i64 high] w fun e w' => e = .returned (.bool b) ∧ Below w.heap.size w w' := h ▸ isSpan_any lo hi low high w

def potB (v lo hi : Int) : Bool := inB v 0 1073741824 && spanB lo hi 0 v

set_option maxHeartbeats 400000 in
theorem isPot_any (v lo hi : Int) (w : World) :
    Calls Try.prog 67 #[.agg #[.int .i64 v, .int .i64 lo, .int .i64 hi]] w fun e w' => e = .returned (.bool (potB v lo hi)) ∧ Below w.heap.size w w' := by
  cases h1 : inB v 0 1073741824 with
  | true =>
    cases h2 : spanB lo hi 0 v with
    | true =>
      have hb : potB v lo hi = true := by simp [potB, h1, h2]
      have H1 := Lib.hid h1; clear h1
      have H2 := Lib.hid h2; clear h2
      rw [hb]; clear hb
      go_enter Try.func67, Try.ntmps67
      go_wp2_with (first | (go_at_call 50; refine (within_b _ _ _ _ H1.out).mono ?_; rintro e w' ⟨rfl, rfl⟩) | (go_at_call 49; refine (isSpan_b _ _ _ _ _ H2.out).mono ?_; rintro e w1 ⟨rfl, hb1⟩))
      go_ret
      exact ⟨rfl, ((Below.refl _ _).alloc (Nat.le_refl _) _).trans (hb1.mono (by simp))⟩
    | false =>
      have hb : potB v lo hi = false := by simp [potB, h2]
      have H1 := Lib.hid h1; clear h1
      have H2 := Lib.hid h2; clear h2
      rw [hb]; clear hb
      go_enter Try.func67, Try.ntmps67
      go_wp2_with (first | (go_at_call 50; refine (within_b _ _ _ _ H1.out).mono ?_; rintro e w' ⟨rfl, rfl⟩) | (go_at_call 49; refine (isSpan_b _ _ _ _ _ H2.out).mono ?_; rintro e w1 ⟨rfl, hb1⟩))
      go_ret
      exact ⟨rfl, ((Below.refl _ _).alloc (Nat.le_refl _) _).trans (hb1.mono (by simp))⟩
  | false =>
    have hb : potB v lo hi = false := by simp [potB, h1]
    have H1 := Lib.hid h1; clear h1
    rw [hb]; clear hb
    go_enter Try.func67, Try.ntmps67
    go_wp2_with (first | (go_at_call 50; refine (within_b _ _ _ _ H1.out).mono ?_; rintro e w' ⟨rfl, rfl⟩))
    go_ret
    exact ⟨rfl, ((Below.refl _ _).alloc (Nat.le_refl _) _)⟩

set_option maxHeartbeats 400000 in
theorem lo_any (lo hi : Int) (w : World) :
    Calls Try.prog 71 #[.agg #[.int .i64 lo, .int .i64 hi]] w fun e w' => e = .returned (.int .i64 lo) ∧ Below w.heap.size w w' := by
  go_enter Try.func71, Try.ntmps71
  go_wp2
  go_ret
  exact ⟨rfl, ((Below.refl _ _).alloc (Nat.le_refl _) _)⟩
set_option maxHeartbeats 400000 in
theorem hi_any (lo hi : Int) (w : World) :
    Calls Try.prog 72 #[.agg #[.int .i64 lo, .int .i64 hi]] w fun e w' => e = .returned (.int .i64 hi) ∧ Below w.heap.size w w' := by
  go_enter Try.func72, Try.ntmps72
  go_wp2
  go_ret
  exact ⟨rfl, ((Below.refl _ _).alloc (Nat.le_refl _) _)⟩

set_option maxHeartbeats 400000 in
theorem need_ok (n : Int) (w : World) :
    Calls Try.prog 73 #[.bool true, .int .i64 n] w fun e w' => e = .returned (.tuple #[]) ∧ w = w' := by
  go_enter Try.func73, Try.ntmps73
  go_wp2
  go_end0
  exact ⟨rfl, rfl⟩

set_option maxHeartbeats 400000 in
theorem need_not (n : Int) (w : World) :
    Calls Try.prog 73 #[.bool false, .int .i64 n] w fun e w' => e = .panicked [{ v := .iface 99 (.agg #[.int .i64 n]), recovered := false }] ∧ w = w' := by
  go_enter Try.func73, Try.ntmps73
  go_wp2
  exact ⟨rfl, rfl, rfl⟩
end Go.Proofs.Ytnmldophadanbaa
