/- WashMashes walked: it returns true. No conditions beyond each theorem's own. -/
import Derived.Test.YtecbacbecopbeaaBq
import Derived.Test.YtecbacbecopbeaaDc
set_option linter.unusedVariables false
set_option linter.unusedSimpArgs false
set_option linter.unusedSectionVars false
set_option linter.constructorNameAsVariable false
namespace Go.Proofs.Ytecbacbecopbeaa
open Go.RowKit

attribute [local go_sem] gw_cell gw_frozen gw_size

set_option maxRecDepth 100000 in
set_option maxHeartbeats 8000000 in
theorem mashes_any (m : Msh) (w : World) : Calls Try.prog 3 #[m.val] w (True1 w) := by
  have MA := fun w => Mash_any m w
  have RM := fun w => rMash_any m w
  obtain ⟨o, ho⟩ : ∃ o, mashO m = o := ⟨_, rfl⟩
  obtain ⟨E, hE⟩ : ∃ E, mashE m = E := ⟨_, rfl⟩
  rw [ho, hE] at MA RM
  clear ho hE
  unfold Msh.val MOut.val at MA RM
  have MA' := Lib.hid MA; have RM' := Lib.hid RM; clear MA RM
  unfold Msh.val
  obtain ⟨W1, hW1⟩ : ∃ W1, w.alloc (.cells #[.int .i64 m.g, .int .i64 m.w, .int .i64 m.xl, .int .i64 m.xh, .int .i64 m.hl, .int .i64 m.hh] 25) = W1 := ⟨_, rfl⟩
  have hBc : Below w.heap.size w W1 := by rw [← hW1]; exact below_alloc _ _
  have zc0 : W1.heap[w.heap.size]? = some (.cells #[.int .i64 m.g, .int .i64 m.w, .int .i64 m.xl, .int .i64 m.xh, .int .i64 m.hl, .int .i64 m.hh] 25 (0, 0)) := by rw [← hW1]; exact alloc_at rfl
  have c00 : W1.cell? ⟨w.heap.size, 0, none⟩ = some (.int .i64 m.g) := cell_of_block zc0 0 (by simp)
  have c01 : W1.cell? ⟨w.heap.size, 1, none⟩ = some (.int .i64 m.w) := cell_of_block zc0 1 (by simp)
  have c02 : W1.cell? ⟨w.heap.size, 2, none⟩ = some (.int .i64 m.xl) := cell_of_block zc0 2 (by simp)
  have c03 : W1.cell? ⟨w.heap.size, 3, none⟩ = some (.int .i64 m.xh) := cell_of_block zc0 3 (by simp)
  have c04 : W1.cell? ⟨w.heap.size, 4, none⟩ = some (.int .i64 m.hl) := cell_of_block zc0 4 (by simp)
  have c05 : W1.cell? ⟨w.heap.size, 5, none⟩ = some (.int .i64 m.hh) := cell_of_block zc0 5 (by simp)
  have lc0 := (Array.getElem?_eq_some_iff.1 zc0).1
  have Zc0 := Lib.hid zc0
  clear zc0
  have HBc := Lib.hid hBc; clear hBc
  have HWc := Lib.hid hW1; clear hW1
  go_enter Try.func3, Try.ntmps3
  go_upto_region 1 with (fail)
  rw [HWc.out]
  go_wp2_with fail
  refine (Calls.grown (MA'.out _)).mono ?_
  rintro e w1 ⟨rfl, z1, rfl⟩
  go_upto_region 2 with (fail)
  obtain ⟨W2, hW2⟩ : ∃ W2, (((gw W1 z1)).alloc (.cells #[.int .i64 o.sl, .int .i64 o.sh, .int .i64 o.vl, .int .i64 o.vh] 27)).alloc (.cells #[.int .i64 o.ll, .int .i64 o.lh] 23) = W2 := ⟨_, rfl⟩
  have hbW2 : Below W1.heap.size W1 W2 := by rw [← hW2]; exact ((below_gw W1 z1).alloc (by simp [gw_size]) _).alloc (by simp [gw_size] <;> omega) _
  have ZmW2 := Lib.hid ((hbW2.block _ (Array.getElem?_eq_some_iff.1 Zc0.out).1).trans Zc0.out)
  have zaW2 : W2.heap[W1.heap.size + z1.bs.size]? = some (.cells #[.int .i64 o.sl, .int .i64 o.sh, .int .i64 o.vl, .int .i64 o.vh] 27 (0, 0)) := by rw [← hW2]; exact alloc_keep (alloc_at (by simp [gw_size]))
  have ZaW2 := Lib.hid zaW2; clear zaW2
  have zbW2 : W2.heap[W1.heap.size + z1.bs.size + 1]? = some (.cells #[.int .i64 o.ll, .int .i64 o.lh] 23 (0, 0)) := by rw [← hW2]; exact alloc_at (by simp [gw_size] <;> omega)
  have ZbW2 := Lib.hid zbW2; clear zbW2
  have HBW2 := Lib.hid (thru hbW2 HBc.out)
  have SBW2 := Lib.hid hbW2; clear hbW2
  have HWW2 := Lib.hid hW2; clear hW2
  rw [HWW2.out]
  clear c00 c01 c02 c03 c04 c05
  have S2 := Lib.hid SBW2.out
  have em0W2 : W2.cell? ⟨w.heap.size, 0, none⟩ = some (.int .i64 m.g) := cell_of_block ZmW2.out 0 (by simp)
  have em1W2 : W2.cell? ⟨w.heap.size, 1, none⟩ = some (.int .i64 m.w) := cell_of_block ZmW2.out 1 (by simp)
  have em2W2 : W2.cell? ⟨w.heap.size, 2, none⟩ = some (.int .i64 m.xl) := cell_of_block ZmW2.out 2 (by simp)
  have em3W2 : W2.cell? ⟨w.heap.size, 3, none⟩ = some (.int .i64 m.xh) := cell_of_block ZmW2.out 3 (by simp)
  have em4W2 : W2.cell? ⟨w.heap.size, 4, none⟩ = some (.int .i64 m.hl) := cell_of_block ZmW2.out 4 (by simp)
  have em5W2 : W2.cell? ⟨w.heap.size, 5, none⟩ = some (.int .i64 m.hh) := cell_of_block ZmW2.out 5 (by simp)
  have lmW2 := (Array.getElem?_eq_some_iff.1 ZmW2.out).1
  go_wp2_with fail
  refine (Calls.grown (RM'.out _)).mono ?_
  rintro e w1 ⟨rfl, z2, rfl⟩
  go_upto_region 3 with (fail)
  obtain ⟨W3, hW3⟩ : ∃ W3, (((gw W2 z2)).alloc (.cells #[.int .i64 o.sl, .int .i64 o.sh, .int .i64 o.vl, .int .i64 o.vh] 27)).alloc (.cells #[.int .i64 o.ll, .int .i64 o.lh] 23) = W3 := ⟨_, rfl⟩
  have hbW3 : Below W2.heap.size W2 W3 := by rw [← hW3]; exact ((below_gw W2 z2).alloc (by simp [gw_size]) _).alloc (by simp [gw_size] <;> omega) _
  have ZmW3 := Lib.hid ((hbW3.block _ (Array.getElem?_eq_some_iff.1 ZmW2.out).1).trans ZmW2.out)
  have ZaW3 := Lib.hid ((hbW3.block _ (Array.getElem?_eq_some_iff.1 ZaW2.out).1).trans ZaW2.out)
  have ZbW3 := Lib.hid ((hbW3.block _ (Array.getElem?_eq_some_iff.1 ZbW2.out).1).trans ZbW2.out)
  have zcW3 : W3.heap[W2.heap.size + z2.bs.size]? = some (.cells #[.int .i64 o.sl, .int .i64 o.sh, .int .i64 o.vl, .int .i64 o.vh] 27 (0, 0)) := by rw [← hW3]; exact alloc_keep (alloc_at (by simp [gw_size]))
  have ZcW3 := Lib.hid zcW3; clear zcW3
  have zdW3 : W3.heap[W2.heap.size + z2.bs.size + 1]? = some (.cells #[.int .i64 o.ll, .int .i64 o.lh] 23 (0, 0)) := by rw [← hW3]; exact alloc_at (by simp [gw_size] <;> omega)
  have ZdW3 := Lib.hid zdW3; clear zdW3
  have HBW3 := Lib.hid (thru hbW3 HBW2.out)
  have SBW3 := Lib.hid hbW3; clear hbW3
  have HWW3 := Lib.hid hW3; clear hW3
  rw [HWW3.out]
  clear em0W2 em1W2 em2W2 em3W2 em4W2 em5W2
  have S3 := Lib.hid (S2.out.trans (SBW3.out.mono S2.out.size))
  have ea0W3 : W3.cell? ⟨W1.heap.size + z1.bs.size, 0, none⟩ = some (.int .i64 o.sl) := cell_of_block ZaW3.out 0 (by simp)
  have ea1W3 : W3.cell? ⟨W1.heap.size + z1.bs.size, 1, none⟩ = some (.int .i64 o.sh) := cell_of_block ZaW3.out 1 (by simp)
  have ea2W3 : W3.cell? ⟨W1.heap.size + z1.bs.size, 2, none⟩ = some (.int .i64 o.vl) := cell_of_block ZaW3.out 2 (by simp)
  have ea3W3 : W3.cell? ⟨W1.heap.size + z1.bs.size, 3, none⟩ = some (.int .i64 o.vh) := cell_of_block ZaW3.out 3 (by simp)
  have laW3 := (Array.getElem?_eq_some_iff.1 ZaW3.out).1
  have eb0W3 : W3.cell? ⟨W1.heap.size + z1.bs.size + 1, 0, none⟩ = some (.int .i64 o.ll) := cell_of_block ZbW3.out 0 (by simp)
  have eb1W3 : W3.cell? ⟨W1.heap.size + z1.bs.size + 1, 1, none⟩ = some (.int .i64 o.lh) := cell_of_block ZbW3.out 1 (by simp)
  have lbW3 := (Array.getElem?_eq_some_iff.1 ZbW3.out).1
  have ec0W3 : W3.cell? ⟨W2.heap.size + z2.bs.size, 0, none⟩ = some (.int .i64 o.sl) := cell_of_block ZcW3.out 0 (by simp)
  have ec1W3 : W3.cell? ⟨W2.heap.size + z2.bs.size, 1, none⟩ = some (.int .i64 o.sh) := cell_of_block ZcW3.out 1 (by simp)
  have ec2W3 : W3.cell? ⟨W2.heap.size + z2.bs.size, 2, none⟩ = some (.int .i64 o.vl) := cell_of_block ZcW3.out 2 (by simp)
  have ec3W3 : W3.cell? ⟨W2.heap.size + z2.bs.size, 3, none⟩ = some (.int .i64 o.vh) := cell_of_block ZcW3.out 3 (by simp)
  have lcW3 := (Array.getElem?_eq_some_iff.1 ZcW3.out).1
  have ed0W3 : W3.cell? ⟨W2.heap.size + z2.bs.size + 1, 0, none⟩ = some (.int .i64 o.ll) := cell_of_block ZdW3.out 0 (by simp)
  have ed1W3 : W3.cell? ⟨W2.heap.size + z2.bs.size + 1, 1, none⟩ = some (.int .i64 o.lh) := cell_of_block ZdW3.out 1 (by simp)
  have ldW3 := (Array.getElem?_eq_some_iff.1 ZdW3.out).1
  go_wp2_with fail
  refine (Calls.grown (alive_any _)).mono ?_
  rintro e w1 ⟨rfl, z3, rfl⟩
  go_wp2_with fail
  go_ret
  exact ⟨rfl, HBW3.out.gw z3⟩
end Go.Proofs.Ytecbacbecopbeaa
