/- Contracts of both, met. No conditions beyond each theorem's own. -/
import Derived.Test.YtljofnmgddfljaaBv
set_option linter.unusedVariables false
set_option linter.unusedSimpArgs false
set_option linter.unusedSectionVars false
set_option linter.constructorNameAsVariable false
namespace Go.Proofs.Ytljofnmgddfljaa
open Go.RowKit

attribute [local go_sem] gw_cell gw_frozen gw_size
attribute [local go_sem ↓] run_minZ run_maxZ

set_option maxHeartbeats 1000000 in
theorem both_any (al ah bl bh : Int) (w : World) :
    Calls Try.prog 82 #[.agg #[.int .i64 al, .int .i64 ah], .agg #[.int .i64 bl, .int .i64 bh]] w fun e w' => e = .returned (.agg #[.int .i64 (maxZ al bl), .int .i64 (minZ ah bh)]) ∧ Below w.heap.size w w' := by
  go_enter Try.func82, Try.ntmps82
  go_wp2
  refine bodyPost_ret (v := .agg #[.int .i64 (maxZ al bl), .int .i64 (minZ ah bh)]) (by simp [results, Try.results82, go_sem, *]) rfl ⟨rfl, ?_⟩
  exact ((below_alloc _ _).alloc (by simp) _).alloc (by simp; omega) _

set_option maxHeartbeats 1000000 in
theorem rboth_any (al ah bl bh : Int) (w : World) :
    Calls Try.prog 57 #[.agg #[.int .i64 al, .int .i64 ah], .agg #[.int .i64 bl, .int .i64 bh]] w fun e w' => e = .returned (.agg #[.int .i64 (maxZ al bl), .int .i64 (minZ ah bh)]) ∧ Below w.heap.size w w' := by
  go_enter Try.func57, Try.ntmps57
  go_wp2
  refine bodyPost_ret (v := .agg #[.int .i64 (maxZ al bl), .int .i64 (minZ ah bh)]) (by simp [results, Try.results57, go_sem, *]) rfl ⟨rfl, ?_⟩
  exact ((below_alloc _ _).alloc (by simp) _).alloc (by simp; omega) _

theorem infoCont : (Try.prog.info? 28).map (fun i => (i.zero, i.size)) = some (some (.agg #[.int .i64 0, .int .i64 0, .int .i64 0, .int .i64 0, .int .i64 0]), 5) := by kernel_rfl
/-- the common part of two contents -/
def meetC (x y : Cont) : Cont := ⟨x.day, maxZ x.alo y.alo, minZ x.ahi y.ahi, maxZ x.wlo y.wlo, minZ x.whi y.whi⟩
def meetB (x y : Cont) : Bool := decide (maxZ x.alo y.alo ≤ minZ x.ahi y.ahi) && decide (maxZ x.wlo y.wlo ≤ minZ x.whi y.whi)

set_option maxRecDepth 100000 in
set_option maxHeartbeats 4000000 in
theorem met_any (x y : Cont) (w : World) :
    Calls Try.prog 53 #[x.val, y.val] w fun e w' => e = .returned (.tuple #[(meetC x y).val, .bool (meetB x y)]) ∧ Below w.heap.size w w' := by
  have RB := Lib.hid (show meetB x y = (decide (maxZ x.alo y.alo ≤ minZ x.ahi y.ahi) && decide (maxZ x.wlo y.wlo ≤ minZ x.whi y.whi)) from rfl)
  rw [show (meetC x y).val = .agg #[.int .i64 x.day, .int .i64 (maxZ x.alo y.alo), .int .i64 (minZ x.ahi y.ahi), .int .i64 (maxZ x.wlo y.wlo), .int .i64 (minZ x.whi y.whi)] from rfl]
  unfold Cont.val
  obtain ⟨W1, hW1⟩ : ∃ W1, ((w.alloc (.cells #[.int .i64 x.day, .int .i64 x.alo, .int .i64 x.ahi, .int .i64 x.wlo, .int .i64 x.whi] 28)).alloc (.cells #[.int .i64 y.day, .int .i64 y.alo, .int .i64 y.ahi, .int .i64 y.wlo, .int .i64 y.whi] 28)).alloc (.cells #[.int .i64 0, .int .i64 0, .int .i64 0, .int .i64 0, .int .i64 0] 28) = W1 := ⟨_, rfl⟩
  have hBc : Below w.heap.size w W1 := by rw [← hW1]; exact ((below_alloc _ _).alloc (by simp) _).alloc (by simp <;> omega) _
  have zc0 : W1.heap[w.heap.size]? = some (.cells #[.int .i64 x.day, .int .i64 x.alo, .int .i64 x.ahi, .int .i64 x.wlo, .int .i64 x.whi] 28 (0, 0)) := by rw [← hW1]; exact alloc_keep (alloc_keep (alloc_at rfl))
  have zc1 : W1.heap[w.heap.size + 1]? = some (.cells #[.int .i64 y.day, .int .i64 y.alo, .int .i64 y.ahi, .int .i64 y.wlo, .int .i64 y.whi] 28 (0, 0)) := by rw [← hW1]; exact alloc_keep (alloc_at (by simp))
  have zc2 : W1.heap[w.heap.size + 1 + 1]? = some (.cells #[.int .i64 0, .int .i64 0, .int .i64 0, .int .i64 0, .int .i64 0] 28 (0, 0)) := by rw [← hW1]; exact alloc_at (by simp <;> omega)
  have c00 : W1.cell? ⟨w.heap.size, 0, none⟩ = some (.int .i64 x.day) := cell_of_block zc0 0 (by simp)
  have c01 : W1.cell? ⟨w.heap.size, 1, none⟩ = some (.int .i64 x.alo) := cell_of_block zc0 1 (by simp)
  have c02 : W1.cell? ⟨w.heap.size, 2, none⟩ = some (.int .i64 x.ahi) := cell_of_block zc0 2 (by simp)
  have c03 : W1.cell? ⟨w.heap.size, 3, none⟩ = some (.int .i64 x.wlo) := cell_of_block zc0 3 (by simp)
  have c04 : W1.cell? ⟨w.heap.size, 4, none⟩ = some (.int .i64 x.whi) := cell_of_block zc0 4 (by simp)
  have c10 : W1.cell? ⟨w.heap.size + 1, 0, none⟩ = some (.int .i64 y.day) := cell_of_block zc1 0 (by simp)
  have c11 : W1.cell? ⟨w.heap.size + 1, 1, none⟩ = some (.int .i64 y.alo) := cell_of_block zc1 1 (by simp)
  have c12 : W1.cell? ⟨w.heap.size + 1, 2, none⟩ = some (.int .i64 y.ahi) := cell_of_block zc1 2 (by simp)
  have c13 : W1.cell? ⟨w.heap.size + 1, 3, none⟩ = some (.int .i64 y.wlo) := cell_of_block zc1 3 (by simp)
  have c14 : W1.cell? ⟨w.heap.size + 1, 4, none⟩ = some (.int .i64 y.whi) := cell_of_block zc1 4 (by simp)
  have c20 : W1.cell? ⟨w.heap.size + 1 + 1, 0, none⟩ = some (.int .i64 0) := cell_of_block zc2 0 (by simp)
  have c21 : W1.cell? ⟨w.heap.size + 1 + 1, 1, none⟩ = some (.int .i64 0) := cell_of_block zc2 1 (by simp)
  have c22 : W1.cell? ⟨w.heap.size + 1 + 1, 2, none⟩ = some (.int .i64 0) := cell_of_block zc2 2 (by simp)
  have c23 : W1.cell? ⟨w.heap.size + 1 + 1, 3, none⟩ = some (.int .i64 0) := cell_of_block zc2 3 (by simp)
  have c24 : W1.cell? ⟨w.heap.size + 1 + 1, 4, none⟩ = some (.int .i64 0) := cell_of_block zc2 4 (by simp)
  have lc0 := (Array.getElem?_eq_some_iff.1 zc0).1
  have lc1 := (Array.getElem?_eq_some_iff.1 zc1).1
  have lc2 := (Array.getElem?_eq_some_iff.1 zc2).1
  have Zc2 := Lib.hid zc2
  clear zc0 zc1 zc2
  have HBc := Lib.hid hBc; clear hBc
  have HWc := Lib.hid hW1; clear hW1
  go_enter Try.func53, Try.ntmps53
  go_wp2_with fail
  rw [HWc.out]
  refine wp_region_box1 [true, true, true, true, true, true, true, true, true, true, true, true, true, false, false] 13 14 #[.int .i64 0, .int .i64 0, .int .i64 0, .int .i64 0, .int .i64 0] #[.int .i64 x.day, .int .i64 (maxZ x.alo y.alo), .int .i64 (minZ x.ahi y.ahi), .int .i64 (maxZ x.wlo y.wlo), .int .i64 (minZ x.whi y.whi)] (by kernel_rfl) rfl rfl rfl (by kernel_rfl) rfl (by kernel_rfl) infoCont rfl rfl (by simp [Value.oneCell']) ?_
  apply Exists.intro
  refine ⟨fun S hS hx => ?_, ?_, ?_⟩
  · obtain ⟨x0, hx0⟩ := hx
    haveI : Nonempty (GrewS W1 S) := ⟨⟨x0, hx0⟩⟩
    simp only [pickM]
    repeat (go_big_quiet_step ((go_at_call 82; exact Calls.gwS hS (both_any _ _ _ _ _))))
    exact wpQuiet_nil rfl
  · rfl
  · intro B w5 hBw hblk hb5
    have z2 := (hb5.block _ lc2).trans Zc2.out
    have s0 := cell_of_block hblk 0 (by simp)
    have s1 := cell_of_block hblk 1 (by simp)
    have s2 := cell_of_block hblk 2 (by simp)
    have s3 := cell_of_block hblk 3 (by simp)
    have s4 := cell_of_block hblk 4 (by simp)
    simp at s0 s1 s2 s3 s4
    have p0 := cell_of_block z2 0 (by simp)
    have p1 := cell_of_block z2 1 (by simp)
    have p2 := cell_of_block z2 2 (by simp)
    have p3 := cell_of_block z2 3 (by simp)
    have p4 := cell_of_block z2 4 (by simp)
    simp at p0 p1 p2 p3 p4
    have f0 := frozen_of_block z2 0
    have f1 := frozen_of_block z2 1
    have f2 := frozen_of_block z2 2
    have f3 := frozen_of_block z2 3
    have f4 := frozen_of_block z2 4
    have n1 : B ≠ w.heap.size + 1 + 1 := by omega
    have n2 := n1.symm
    have B5 := Lib.hid (thru hb5 HBc.out)
    clear z2 hblk hb5 c00 c01 c02 c03 c04 c10 c11 c12 c13 c14 c20 c21 c22 c23 c24
    by_cases q1 : maxZ x.alo y.alo ≤ minZ x.ahi y.ahi
    · by_cases q2 : maxZ x.wlo y.wlo ≤ minZ x.whi y.whi
      · rw [decide_eq_true q1, decide_eq_true q2] at RB
        go_upto_region 2 with (fail)
        simp only [Act.put, List.setIfInBounds_toArray, List.set_cons_succ, List.set_cons_zero]
        go_region
        all_goals
          go_wp2_with fail
          refine bodyPost_ret (v := .tuple #[.agg #[.int .i64 x.day, .int .i64 (maxZ x.alo y.alo), .int .i64 (minZ x.ahi y.ahi), .int .i64 (maxZ x.wlo y.wlo), .int .i64 (minZ x.whi y.whi)], .bool true]) (by simp [results, Try.results53, go_sem, *]) rfl ⟨by rw [RB.out]; rfl, ?_⟩
          exact (((((B5.out.setCell (by simp <;> omega) _).setCell (by simp <;> omega) _).setCell (by simp <;> omega) _).setCell (by simp <;> omega) _).setCell (by simp <;> omega) _).drew
      · rw [decide_eq_true q1, decide_eq_false q2] at RB
        go_upto_region 2 with (fail)
        simp only [Act.put, List.setIfInBounds_toArray, List.set_cons_succ, List.set_cons_zero]
        go_region
        all_goals
          go_wp2_with fail
          refine bodyPost_ret (v := .tuple #[.agg #[.int .i64 x.day, .int .i64 (maxZ x.alo y.alo), .int .i64 (minZ x.ahi y.ahi), .int .i64 (maxZ x.wlo y.wlo), .int .i64 (minZ x.whi y.whi)], .bool false]) (by simp [results, Try.results53, go_sem, *]) rfl ⟨by rw [RB.out]; rfl, ?_⟩
          exact (((((B5.out.setCell (by simp <;> omega) _).setCell (by simp <;> omega) _).setCell (by simp <;> omega) _).setCell (by simp <;> omega) _).setCell (by simp <;> omega) _).drew
    · have q3 : decide (maxZ x.alo y.alo ≤ minZ x.ahi y.ahi) = false := decide_eq_false q1
      rw [q3] at RB
      go_upto_region 2 with (fail)
      simp only [Act.put, List.setIfInBounds_toArray, List.set_cons_succ, List.set_cons_zero]
      go_region
      all_goals
        go_wp2_with fail
        refine bodyPost_ret (v := .tuple #[.agg #[.int .i64 x.day, .int .i64 (maxZ x.alo y.alo), .int .i64 (minZ x.ahi y.ahi), .int .i64 (maxZ x.wlo y.wlo), .int .i64 (minZ x.whi y.whi)], .bool false]) (by simp [results, Try.results53, go_sem, *]) rfl ⟨by rw [RB.out]; rfl, ?_⟩
        exact (((((B5.out.setCell (by simp <;> omega) _).setCell (by simp <;> omega) _).setCell (by simp <;> omega) _).setCell (by simp <;> omega) _).setCell (by simp <;> omega) _).drew
end Go.Proofs.Ytljofnmgddfljaa
