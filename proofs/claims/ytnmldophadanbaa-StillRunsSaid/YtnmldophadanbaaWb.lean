/- Contract of still.strong. No conditions beyond each theorem's own. -/
import Derived.Test.YtnmldophadanbaaWa
set_option linter.unusedVariables false
set_option linter.unusedSimpArgs false
set_option linter.unusedSectionVars false
set_option linter.constructorNameAsVariable false
namespace Go.Proofs.Ytnmldophadanbaa
open Go.RowKit

theorem bcell {W w1 : World} (hb : Below W.heap.size W w1) : (∀ b o, b < W.heap.size → w1.cell? ⟨b, o, none⟩ = W.cell? ⟨b, o, none⟩) ∧ (∀ b o, b < W.heap.size → w1.frozen? ⟨b, o, none⟩ = W.frozen? ⟨b, o, none⟩) :=
  ⟨fun b o h => hb.cell (p := ⟨b, o, none⟩) h, fun b o h => hb.frozen (p := ⟨b, o, none⟩) h⟩

attribute [local go_sem] gw_cell gw_frozen gw_size

set_option maxHeartbeats 1000000 in
theorem strong_pos (lo hi v : Int) (w : World) (h0 : 0 ≤ lo) (h1 : lo ≤ 10000000000000) (h2 : 0 ≤ hi) (h3 : hi ≤ 10000000000000) (h4 : 1 ≤ v) (h5 : v ≤ 10000000000000) :
    Calls Try.prog 61 #[.agg #[.int .i64 lo, .int .i64 hi], .int .i64 v] w fun e w' => e = .returned (.agg #[.int .i64 (lo * 10000 / v), .int .i64 (upI (hi * 10000) v)]) ∧ Below w.heap.size w w' := by
  have h6 : (v == 0) = false := by simp; omega
  go_enter Try.func61, Try.ntmps61
  go_wp2
  refine wp_region_gw_tail 11 (by kernel_rfl) (by kernel_rfl) ?_
  simp only [List.take_succ_cons, List.take_zero]
  repeat (go_big_quiet_step (((go_at_call 51; exact Calls.gw_of_same ((up_any _ _ _ (by omega) (by omega) (by omega) (by omega)))))))
  refine wpQuiet_nil ?_
  rintro _ ⟨x, rfl⟩
  simp only [List.drop_succ_cons, List.drop_zero]
  go_wp2
  refine bodyPost_ret (v := .agg #[.int .i64 (lo * 10000 / v), .int .i64 (upI (hi * 10000) v)]) (by simp [results, Try.results61, go_sem]) rfl ⟨rfl, ?_⟩
  exact ((((((Below.refl _ w).alloc (Nat.le_refl _) _).alloc (by simp) _).gw x).setCell (by simp) _).setCell (by simp) _)

set_option maxHeartbeats 400000 in
theorem strong_zero (lo hi : Int) (w : World) :
    Calls Try.prog 61 #[.agg #[.int .i64 lo, .int .i64 hi], .int .i64 0] w fun e w' => e = .returned (.agg #[.int .i64 0, .int .i64 0]) ∧ Below w.heap.size w w' := by
  go_enter Try.func61, Try.ntmps61
  go_wp2
  refine bodyPost_ret (v := .agg #[.int .i64 0, .int .i64 0]) (by simp [results, Try.results61, go_sem]) rfl ⟨rfl, ?_⟩
  exact (((Below.refl _ w).alloc (Nat.le_refl _) _).alloc (by simp) _)
end Go.Proofs.Ytnmldophadanbaa
