/- Contracts of one, inner. No conditions beyond each theorem's own. -/
import Derived.Test.YtohcopdfdmjhnaaSr
set_option linter.unusedVariables false
set_option linter.unusedSimpArgs false
set_option linter.unusedSectionVars false
set_option linter.constructorNameAsVariable false
namespace Go.Proofs.Ytohcopdfdmjhnaa.L1
open Go.RowKit
open Go.Proofs.Ytohcopdfdmjhnaa

attribute [local go_sem] gw_cell gw_frozen gw_size

theorem innerI_range {lo hi b : Int} (h : lo ≤ hi) : lo ≤ innerI lo hi b ∧ innerI lo hi b ≤ hi := by
  unfold innerI
  have m1 := Int.emod_nonneg b (show hi - lo + 1 ≠ 0 by omega)
  have m2 := Int.emod_lt_of_pos b (show 0 < hi - lo + 1 by omega)
  omega
set_option maxHeartbeats 400000 in
theorem inner_any (lo hi b : Int) (w : World) (h0 : -1000000000000000 ≤ lo) (h1 : lo ≤ hi) (h2 : hi ≤ 1000000000000000) (h3 : 0 ≤ b) (h4 : b ≤ 4294967295) :
    Calls Try.prog 23 #[.agg #[.int .i64 lo, .int .i64 hi], .int .u32 b] w fun e w' => e = .returned (.int .i64 (innerI lo hi b)) ∧ Below w.heap.size w w' := by
  have hr := innerI_range (b := b) h1
  unfold innerI at hr ⊢
  have hz : ¬ hi - lo + 1 = 0 := by omega
  go_enter Try.func23, Try.ntmps23
  go_wp2_with fail
  refine wp_region_gw (by kernel_rfl) (by kernel_rfl) ?_
  repeat (go_big_quiet_step (fail))
  refine wpQuiet_nil ?_
  rintro _ ⟨z, rfl⟩
  go_wp2_with fail
  go_ret
  exact ⟨rfl, ((Below.refl _ w).alloc (Nat.le_refl _) _).gw z⟩
set_option maxHeartbeats 400000 in
theorem one_any (a : Int) (w : World) :
    Calls Try.prog 33 #[.int .i64 a] w fun e w' => e = .returned (.agg #[.int .i64 a, .int .i64 a]) ∧ Below w.heap.size w w' := by
  obtain ⟨W1, hW1⟩ : ∃ W1, w.alloc (.cells #[.int .i64 0, .int .i64 0] 27) = W1 := ⟨_, rfl⟩
  have hBc : Below w.heap.size w W1 := by rw [← hW1]; exact below_alloc _ _
  have zc0 : W1.heap[w.heap.size]? = some (.cells #[.int .i64 0, .int .i64 0] 27 (0, 0)) := by rw [← hW1]; exact alloc_at rfl
  have c00 : W1.cell? ⟨w.heap.size, 0, none⟩ = some (.int .i64 0) := cell_of_block zc0 0 (by simp)
  have c01 : W1.cell? ⟨w.heap.size, 1, none⟩ = some (.int .i64 0) := cell_of_block zc0 1 (by simp)
  have lc0 := (Array.getElem?_eq_some_iff.1 zc0).1
  have fc00 := frozen_of_block zc0 0
  have fc01 := frozen_of_block zc0 1
  clear zc0
  have HBc := Lib.hid hBc; clear hBc
  have HWc := Lib.hid hW1; clear hW1
  go_enter Try.func33, Try.ntmps33
  go_upto_region 1 with (fail)
  rw [HWc.out]
  go_wp2_with fail
  refine bodyPost_ret (v := .agg #[.int .i64 a, .int .i64 a]) (by simp [results, Try.results33, go_sem, *]) rfl ⟨rfl, ?_⟩
  exact (HBc.out.setCell (by simp <;> omega) _).setCell (by simp <;> omega) _
end Go.Proofs.Ytohcopdfdmjhnaa.L1
