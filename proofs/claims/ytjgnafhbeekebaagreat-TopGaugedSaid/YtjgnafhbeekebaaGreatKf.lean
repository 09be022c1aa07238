/- Contracts of both, met. Contract of shows; what a measurement shows. Contract of the reference's shows. No conditions beyond each theorem's own. -/
import Derived.Test.YtjgnafhbeekebaaGreatKe
set_option linter.unusedVariables false
set_option linter.unusedSimpArgs false
set_option linter.unusedSectionVars false
set_option linter.constructorNameAsVariable false
namespace Go.Proofs.YtjgnafhbeekebaaGreat.L7
open Go.RowKit

attribute [local go_sem] gw_cell gw_frozen gw_size
attribute [local go_sem ↓] run_minZ run_maxZ

set_option maxHeartbeats 1000000 in
theorem both_any (al ah bl bh : Int) (w : World) :
    Calls Tryz.prog 64 #[.agg #[.int .i64 al, .int .i64 ah], .agg #[.int .i64 bl, .int .i64 bh]] w fun e w' => e = .returned (.agg #[.int .i64 (maxZ al bl), .int .i64 (minZ ah bh)]) ∧ Below w.heap.size w w' := by
  go_enter Tryz.func64, Tryz.ntmps64
  go_wp2
  refine bodyPost_ret (v := .agg #[.int .i64 (maxZ al bl), .int .i64 (minZ ah bh)]) (by simp [results, Tryz.results64, go_sem, *]) rfl ⟨rfl, ?_⟩
  exact ((below_alloc _ _).alloc (by simp) _).alloc (by simp; omega) _

theorem infoCont : (Tryz.prog.info? 32).map (fun i => (i.zero, i.size)) = some (some (.agg #[.int .i64 0, .int .i64 0, .int .i64 0, .int .i64 0, .int .i64 0]), 5) := by kernel_rfl
/-- the common part of two contents -/
def meetC (x y : Cont) : Cont := ⟨x.day, maxZ x.alo y.alo, minZ x.ahi y.ahi, maxZ x.wlo y.wlo, minZ x.whi y.whi⟩
def meetB (x y : Cont) : Bool := decide (maxZ x.alo y.alo ≤ minZ x.ahi y.ahi) && decide (maxZ x.wlo y.wlo ≤ minZ x.whi y.whi)

set_option maxRecDepth 100000 in
set_option maxHeartbeats 4000000 in
theorem met_any (x y : Cont) (w : World) :
    Calls Tryz.prog 39 #[x.val, y.val] w fun e w' => e = .returned (.tuple #[(meetC x y).val, .bool (meetB x y)]) ∧ Below w.heap.size w w' := by
  have RB := Lib.hid (show meetB x y = (decide (maxZ x.alo y.alo ≤ minZ x.ahi y.ahi) && decide (maxZ x.wlo y.wlo ≤ minZ x.whi y.whi)) from rfl)
  rw [show (meetC x y).val = .agg #[.int .i64 x.day, .int .i64 (maxZ x.alo y.alo), .int .i64 (minZ x.ahi y.ahi), .int .i64 (maxZ x.wlo y.wlo), .int .i64 (minZ x.whi y.whi)] from rfl]
  unfold Cont.val
  obtain ⟨W1, hW1⟩ : ∃ W1, ((w.alloc (.cells #[.int .i64 x.day, .int .i64 x.alo, .int .i64 x.ahi, .int .i64 x.wlo, .int .i64 x.whi] 32)).alloc (.cells #[.int .i64 y.day, .int .i64 y.alo, .int .i64 y.ahi, .int .i64 y.wlo, .int .i64 y.whi] 32)).alloc (.cells #[.int .i64 0, .int .i64 0, .int .i64 0, .int .i64 0, .int .i64 0] 32) = W1 := ⟨_, rfl⟩
  have hBc : Below w.heap.size w W1 := by rw [← hW1]; exact ((below_alloc _ _).alloc (by simp) _).alloc (by simp <;> omega) _
  have zc0 : W1.heap[w.heap.size]? = some (.cells #[.int .i64 x.day, .int .i64 x.alo, .int .i64 x.ahi, .int .i64 x.wlo, .int .i64 x.whi] 32 (0, 0)) := by rw [← hW1]; exact alloc_keep (alloc_keep (alloc_at rfl))
  have zc1 : W1.heap[w.heap.size + 1]? = some (.cells #[.int .i64 y.day, .int .i64 y.alo, .int .i64 y.ahi, .int .i64 y.wlo, .int .i64 y.whi] 32 (0, 0)) := by rw [← hW1]; exact alloc_keep (alloc_at (by simp))
  have zc2 : W1.heap[w.heap.size + 1 + 1]? = some (.cells #[.int .i64 0, .int .i64 0, .int .i64 0, .int .i64 0, .int .i64 0] 32 (0, 0)) := by rw [← hW1]; exact alloc_at (by simp <;> omega)
  have c00 : W1.cell? ⟨w.heap.size, 0, none⟩ = some (.int .i64 x.day) := cell_of_block zc0 0 (by simp)
  have c01 : W1.cell? ⟨w.heap.size, 1, none⟩ = some (.int .i64 x.alo) := cell_of_block zc0 1 (by simp)
  have c02 : W1.cell? ⟨w.heap.size, 2, none⟩ = some (.int .i64 x.ahi) := cell_of_block zc0 2 (by simp)
  have c03 : W1.cell? ⟨w.heap.size, 3, none⟩ = some (.int .i64 x.wlo) := cell_of_block zc0 3 (by simp)
  have c04 : W1.cell? ⟨w.heap.size, 4, none⟩ = some (.int .i64 x.whi) := cell_of_block zc0 4 (by simp)
  have c10 : W1.cell? ⟨w.heap.size + 1, 0, none⟩ = some (.int .i64 y.day) := cell_of_block zc1 0 (by simp)
  have c11 : W1.cell? ⟨w.heap.size + 1, 1, none⟩ = some (.int .i64 y.alo) := cell_of_block zc1 1 (by simp)
  have c12 : W1.cell? ⟨w.heap.size + 1, 2, none⟩ = some (.int .i64 y.ahi) := cell_of_block zc1 2 (by simp)
  have c13 : W1.cell? ⟨w.heap.size + 1, 3, none⟩ = some (.int .i64 y.wlo) := cell_of_block zc1 3 (by simp)
  have c14 : W1.cell? ⟨w.heap.size + 1, 4, none⟩ = some (.int .i64 y.whi) := cell_of_block zc1 4 (by simp)
  have c20 : W1.cell? ⟨w.heap.size + 1 + 1, 0, none⟩ = some (.int .i64 0) := cell_of_block zc2 0 (by simp)
  have c21 : W1.cell? ⟨w.heap.size + 1 + 1, 1, none⟩ = some (.int .i64 0) := cell_of_block zc2 1 (by simp)
  have c22 : W1.cell? ⟨w.heap.size + 1 + 1, 2, none⟩ = some (.int .i64 0) := cell_of_block zc2 2 (by simp)
  have c23 : W1.cell? ⟨w.heap.size + 1 + 1, 3, none⟩ = some (.int .i64 0) := cell_of_block zc2 3 (by simp)
  have c24 : W1.cell? ⟨w.heap.size + 1 + 1, 4, none⟩ = some (.int .i64 0) := cell_of_block zc2 4 (by simp)
  have lc0 := (Array.getElem?_eq_some_iff.1 zc0).1
  have lc1 := (Array.getElem?_eq_some_iff.1 zc1).1
  have lc2 := (Array.getElem?_eq_some_iff.1 zc2).1
  have Zc2 := Lib.hid zc2
  clear zc0 zc1 zc2
  have HBc := Lib.hid hBc; clear hBc
  have HWc := Lib.hid hW1; clear hW1
  go_enter Tryz.func39, Tryz.ntmps39
  go_wp2_with fail
  rw [HWc.out]
  refine wp_region_box1 [true, true, true, true, true, true, true, true, true, true, true, true, true, false, false] 13 14 #[.int .i64 0, .int .i64 0, .int .i64 0, .int .i64 0, .int .i64 0] #[.int .i64 x.day, .int .i64 (maxZ x.alo y.alo), .int .i64 (minZ x.ahi y.ahi), .int .i64 (maxZ x.wlo y.wlo), .int .i64 (minZ x.whi y.whi)] (by kernel_rfl) rfl rfl rfl (by kernel_rfl) rfl (by kernel_rfl) infoCont rfl rfl (by simp [Value.oneCell']) ?_
  apply Exists.intro
  refine ⟨fun S hS hx => ?_, ?_, ?_⟩
  · obtain ⟨x0, hx0⟩ := hx
    haveI : Nonempty (GrewS W1 S) := ⟨⟨x0, hx0⟩⟩
    simp only [pickM]
    repeat (go_big_quiet_step ((go_at_call 64; exact Calls.gwS hS (both_any _ _ _ _ _))))
    exact wpQuiet_nil rfl
  · rfl
  · intro B w5 hBw hblk hb5
    have z2 := (hb5.block _ lc2).trans Zc2.out
    have s0 := cell_of_block hblk 0 (by simp)
    have s1 := cell_of_block hblk 1 (by simp)
    have s2 := cell_of_block hblk 2 (by simp)
    have s3 := cell_of_block hblk 3 (by simp)
    have s4 := cell_of_block hblk 4 (by simp)
    simp at s0 s1 s2 s3 s4
    have p0 := cell_of_block z2 0 (by simp)
    have p1 := cell_of_block z2 1 (by simp)
    have p2 := cell_of_block z2 2 (by simp)
    have p3 := cell_of_block z2 3 (by simp)
    have p4 := cell_of_block z2 4 (by simp)
    simp at p0 p1 p2 p3 p4
    have f0 := frozen_of_block z2 0
    have f1 := frozen_of_block z2 1
    have f2 := frozen_of_block z2 2
    have f3 := frozen_of_block z2 3
    have f4 := frozen_of_block z2 4
    have n1 : B ≠ w.heap.size + 1 + 1 := by omega
    have n2 := n1.symm
    have B5 := Lib.hid (thru hb5 HBc.out)
    clear z2 hblk hb5 c00 c01 c02 c03 c04 c10 c11 c12 c13 c14 c20 c21 c22 c23 c24
    by_cases q1 : maxZ x.alo y.alo ≤ minZ x.ahi y.ahi
    · by_cases q2 : maxZ x.wlo y.wlo ≤ minZ x.whi y.whi
      · rw [decide_eq_true q1, decide_eq_true q2] at RB
        go_upto_region 2 with (fail)
        simp only [Act.put, List.setIfInBounds_toArray, List.set_cons_succ, List.set_cons_zero]
        go_region
        all_goals
          go_wp2_with fail
          refine bodyPost_ret (v := .tuple #[.agg #[.int .i64 x.day, .int .i64 (maxZ x.alo y.alo), .int .i64 (minZ x.ahi y.ahi), .int .i64 (maxZ x.wlo y.wlo), .int .i64 (minZ x.whi y.whi)], .bool true]) (by simp [results, Tryz.results39, go_sem, *]) rfl ⟨by rw [RB.out]; rfl, ?_⟩
          exact (((((B5.out.setCell (by simp <;> omega) _).setCell (by simp <;> omega) _).setCell (by simp <;> omega) _).setCell (by simp <;> omega) _).setCell (by simp <;> omega) _).drew
      · rw [decide_eq_true q1, decide_eq_false q2] at RB
        go_upto_region 2 with (fail)
        simp only [Act.put, List.setIfInBounds_toArray, List.set_cons_succ, List.set_cons_zero]
        go_region
        all_goals
          go_wp2_with fail
          refine bodyPost_ret (v := .tuple #[.agg #[.int .i64 x.day, .int .i64 (maxZ x.alo y.alo), .int .i64 (minZ x.ahi y.ahi), .int .i64 (maxZ x.wlo y.wlo), .int .i64 (minZ x.whi y.whi)], .bool false]) (by simp [results, Tryz.results39, go_sem, *]) rfl ⟨by rw [RB.out]; rfl, ?_⟩
          exact (((((B5.out.setCell (by simp <;> omega) _).setCell (by simp <;> omega) _).setCell (by simp <;> omega) _).setCell (by simp <;> omega) _).setCell (by simp <;> omega) _).drew
    · have q3 : decide (maxZ x.alo y.alo ≤ minZ x.ahi y.ahi) = false := decide_eq_false q1
      rw [q3] at RB
      go_upto_region 2 with (fail)
      simp only [Act.put, List.setIfInBounds_toArray, List.set_cons_succ, List.set_cons_zero]
      go_region
      all_goals
        go_wp2_with fail
        refine bodyPost_ret (v := .tuple #[.agg #[.int .i64 x.day, .int .i64 (maxZ x.alo y.alo), .int .i64 (minZ x.ahi y.ahi), .int .i64 (maxZ x.wlo y.wlo), .int .i64 (minZ x.whi y.whi)], .bool false]) (by simp [results, Tryz.results39, go_sem, *]) rfl ⟨by rw [RB.out]; rfl, ?_⟩
        exact (((((B5.out.setCell (by simp <;> omega) _).setCell (by simp <;> omega) _).setCell (by simp <;> omega) _).setCell (by simp <;> omega) _).setCell (by simp <;> omega) _).drew
end Go.Proofs.YtjgnafhbeekebaaGreat.L7

namespace Go.Proofs.YtjgnafhbeekebaaGreat.L7
open Go.RowKit

attribute [local go_sem] gw_cell gw_frozen gw_size

/-- what a measurement shows -/
def showsN (x y : Cont) : Int :=
  if meetB x y = true then 0 else if x.ahi < y.alo ∨ y.whi * x.ahi < y.alo * x.wlo then 3 else if x.whi < y.wlo ∨ y.ahi * x.whi < y.wlo * x.alo then 2 else 1

set_option maxRecDepth 100000 in
set_option maxHeartbeats 4000000 in
theorem shows_any (x y : Cont) (w : World) (hx : contB x = true) (hy : contB y = true) :
    Calls Tryz.prog 37 #[x.val, y.val] w fun e w' => e = .returned (.int .i64 (showsN x y)) ∧ Below w.heap.size w w' := by
  obtain ⟨-, ⟨x0, x1, x2⟩, x3, x4, x5⟩ := contB_t hx
  obtain ⟨-, ⟨y0, y1, y2⟩, y3, y4, y5⟩ := contB_t hy
  clear hx hy
  obtain ⟨m1, m2⟩ := mul_le y0 (show y.alo ≤ 2147483648 by omega) x3 (show x.wlo ≤ 2147483648 by omega)
  obtain ⟨m3, m4⟩ := mul_le (show 0 ≤ y.whi by omega) y5 (show 0 ≤ x.ahi by omega) x2
  obtain ⟨m5, m6⟩ := mul_le y3 (show y.wlo ≤ 2147483648 by omega) x0 (show x.alo ≤ 2147483648 by omega)
  obtain ⟨m7, m8⟩ := mul_le (show 0 ≤ y.ahi by omega) y2 (show 0 ≤ x.whi by omega) x5
  obtain ⟨E, hE⟩ : ∃ E, showsN x y = E := ⟨_, rfl⟩
  rw [hE]
  unfold showsN at hE
  have MT := fun W => met_any x y W
  rw [show (meetC x y).val = .agg #[.int .i64 (meetC x y).day, .int .i64 (meetC x y).alo, .int .i64 (meetC x y).ahi, .int .i64 (meetC x y).wlo, .int .i64 (meetC x y).whi] from rfl] at MT
  unfold Cont.val at MT ⊢
  have MT' := Lib.hid MT; clear MT
  obtain ⟨W1, hW1⟩ : ∃ W1, (w.alloc (.cells #[.int .i64 x.day, .int .i64 x.alo, .int .i64 x.ahi, .int .i64 x.wlo, .int .i64 x.whi] 32)).alloc (.cells #[.int .i64 y.day, .int .i64 y.alo, .int .i64 y.ahi, .int .i64 y.wlo, .int .i64 y.whi] 32) = W1 := ⟨_, rfl⟩
  have hBc : Below w.heap.size w W1 := by rw [← hW1]; exact (below_alloc _ _).alloc (by simp) _
  have zc0 : W1.heap[w.heap.size]? = some (.cells #[.int .i64 x.day, .int .i64 x.alo, .int .i64 x.ahi, .int .i64 x.wlo, .int .i64 x.whi] 32 (0, 0)) := by rw [← hW1]; exact alloc_keep (alloc_at rfl)
  have zc1 : W1.heap[w.heap.size + 1]? = some (.cells #[.int .i64 y.day, .int .i64 y.alo, .int .i64 y.ahi, .int .i64 y.wlo, .int .i64 y.whi] 32 (0, 0)) := by rw [← hW1]; exact alloc_at (by simp)
  have c00 : W1.cell? ⟨w.heap.size, 0, none⟩ = some (.int .i64 x.day) := cell_of_block zc0 0 (by simp)
  have c01 : W1.cell? ⟨w.heap.size, 1, none⟩ = some (.int .i64 x.alo) := cell_of_block zc0 1 (by simp)
  have c02 : W1.cell? ⟨w.heap.size, 2, none⟩ = some (.int .i64 x.ahi) := cell_of_block zc0 2 (by simp)
  have c03 : W1.cell? ⟨w.heap.size, 3, none⟩ = some (.int .i64 x.wlo) := cell_of_block zc0 3 (by simp)
  have c04 : W1.cell? ⟨w.heap.size, 4, none⟩ = some (.int .i64 x.whi) := cell_of_block zc0 4 (by simp)
  have c10 : W1.cell? ⟨w.heap.size + 1, 0, none⟩ = some (.int .i64 y.day) := cell_of_block zc1 0 (by simp)
  have c11 : W1.cell? ⟨w.heap.size + 1, 1, none⟩ = some (.int .i64 y.alo) := cell_of_block zc1 1 (by simp)
  have c12 : W1.cell? ⟨w.heap.size + 1, 2, none⟩ = some (.int .i64 y.ahi) := cell_of_block zc1 2 (by simp)
  have c13 : W1.cell? ⟨w.heap.size + 1, 3, none⟩ = some (.int .i64 y.wlo) := cell_of_block zc1 3 (by simp)
  have c14 : W1.cell? ⟨w.heap.size + 1, 4, none⟩ = some (.int .i64 y.whi) := cell_of_block zc1 4 (by simp)
  have lc0 := (Array.getElem?_eq_some_iff.1 zc0).1
  have lc1 := (Array.getElem?_eq_some_iff.1 zc1).1
  have Zc0 := Lib.hid zc0
  have Zc1 := Lib.hid zc1
  clear zc0 zc1
  have HBc := Lib.hid hBc; clear hBc
  have HWc := Lib.hid hW1; clear hW1
  cases h0 : meetB x y with
  | true =>
    rw [if_pos h0] at hE
    subst hE
    rw [h0] at MT'
    go_enter Tryz.func37, Tryz.ntmps37
    go_wp2_with fail
    rw [HWc.out]
    go_wp2_with fail
    refine (Calls.grown (MT'.out _)).mono ?_
    rintro e w1 ⟨rfl, z1, rfl⟩
    go_upto_region 2 with (fail)
    obtain ⟨W2, hW2⟩ : ∃ W2, ((gw W1 z1)).alloc (.cells #[.int .i64 (meetC x y).day, .int .i64 (meetC x y).alo, .int .i64 (meetC x y).ahi, .int .i64 (meetC x y).wlo, .int .i64 (meetC x y).whi] 32) = W2 := ⟨_, rfl⟩
    have hbW2 : Below W1.heap.size W1 W2 := by rw [← hW2]; exact (below_gw W1 z1).alloc (by simp [gw_size]) _
    have ZxW2 := Lib.hid ((hbW2.block _ (Array.getElem?_eq_some_iff.1 Zc0.out).1).trans Zc0.out)
    have ZyW2 := Lib.hid ((hbW2.block _ (Array.getElem?_eq_some_iff.1 Zc1.out).1).trans Zc1.out)
    have zmW2 : W2.heap[W1.heap.size + z1.bs.size]? = some (.cells #[.int .i64 (meetC x y).day, .int .i64 (meetC x y).alo, .int .i64 (meetC x y).ahi, .int .i64 (meetC x y).wlo, .int .i64 (meetC x y).whi] 32 (0, 0)) := by rw [← hW2]; exact alloc_at (by simp [gw_size])
    have ZmW2 := Lib.hid zmW2; clear zmW2
    have HBW2 := Lib.hid (thru hbW2 HBc.out)
    have SBW2 := Lib.hid hbW2; clear hbW2
    have HWW2 := Lib.hid hW2; clear hW2
    rw [HWW2.out]
    clear c00 c01 c02 c03 c04 c10 c11 c12 c13 c14
    have ex0W2 : W2.cell? ⟨w.heap.size, 0, none⟩ = some (.int .i64 x.day) := cell_of_block ZxW2.out 0 (by simp)
    have ex1W2 : W2.cell? ⟨w.heap.size, 1, none⟩ = some (.int .i64 x.alo) := cell_of_block ZxW2.out 1 (by simp)
    have ex2W2 : W2.cell? ⟨w.heap.size, 2, none⟩ = some (.int .i64 x.ahi) := cell_of_block ZxW2.out 2 (by simp)
    have ex3W2 : W2.cell? ⟨w.heap.size, 3, none⟩ = some (.int .i64 x.wlo) := cell_of_block ZxW2.out 3 (by simp)
    have ex4W2 : W2.cell? ⟨w.heap.size, 4, none⟩ = some (.int .i64 x.whi) := cell_of_block ZxW2.out 4 (by simp)
    have lxW2 := (Array.getElem?_eq_some_iff.1 ZxW2.out).1
    have ey0W2 : W2.cell? ⟨w.heap.size + 1, 0, none⟩ = some (.int .i64 y.day) := cell_of_block ZyW2.out 0 (by simp)
    have ey1W2 : W2.cell? ⟨w.heap.size + 1, 1, none⟩ = some (.int .i64 y.alo) := cell_of_block ZyW2.out 1 (by simp)
    have ey2W2 : W2.cell? ⟨w.heap.size + 1, 2, none⟩ = some (.int .i64 y.ahi) := cell_of_block ZyW2.out 2 (by simp)
    have ey3W2 : W2.cell? ⟨w.heap.size + 1, 3, none⟩ = some (.int .i64 y.wlo) := cell_of_block ZyW2.out 3 (by simp)
    have ey4W2 : W2.cell? ⟨w.heap.size + 1, 4, none⟩ = some (.int .i64 y.whi) := cell_of_block ZyW2.out 4 (by simp)
    have lyW2 := (Array.getElem?_eq_some_iff.1 ZyW2.out).1
    go_wp2_with fail
    go_ret
    exact ⟨rfl, HBW2.out⟩
  | false =>
    rw [if_neg (by rw [h0]; simp)] at hE
    rw [h0] at MT'
    by_cases p1 : x.ahi < y.alo
    · rw [if_pos (.inl p1)] at hE
      subst hE
      go_enter Tryz.func37, Tryz.ntmps37
      go_wp2_with fail
      rw [HWc.out]
      go_wp2_with fail
      refine (Calls.grown (MT'.out _)).mono ?_
      rintro e w1 ⟨rfl, z1, rfl⟩
      go_upto_region 2 with (fail)
      obtain ⟨W2, hW2⟩ : ∃ W2, ((gw W1 z1)).alloc (.cells #[.int .i64 (meetC x y).day, .int .i64 (meetC x y).alo, .int .i64 (meetC x y).ahi, .int .i64 (meetC x y).wlo, .int .i64 (meetC x y).whi] 32) = W2 := ⟨_, rfl⟩
      have hbW2 : Below W1.heap.size W1 W2 := by rw [← hW2]; exact (below_gw W1 z1).alloc (by simp [gw_size]) _
      have ZxW2 := Lib.hid ((hbW2.block _ (Array.getElem?_eq_some_iff.1 Zc0.out).1).trans Zc0.out)
      have ZyW2 := Lib.hid ((hbW2.block _ (Array.getElem?_eq_some_iff.1 Zc1.out).1).trans Zc1.out)
      have zmW2 : W2.heap[W1.heap.size + z1.bs.size]? = some (.cells #[.int .i64 (meetC x y).day, .int .i64 (meetC x y).alo, .int .i64 (meetC x y).ahi, .int .i64 (meetC x y).wlo, .int .i64 (meetC x y).whi] 32 (0, 0)) := by rw [← hW2]; exact alloc_at (by simp [gw_size])
      have ZmW2 := Lib.hid zmW2; clear zmW2
      have HBW2 := Lib.hid (thru hbW2 HBc.out)
      have SBW2 := Lib.hid hbW2; clear hbW2
      have HWW2 := Lib.hid hW2; clear hW2
      rw [HWW2.out]
      clear c00 c01 c02 c03 c04 c10 c11 c12 c13 c14
      have ex0W2 : W2.cell? ⟨w.heap.size, 0, none⟩ = some (.int .i64 x.day) := cell_of_block ZxW2.out 0 (by simp)
      have ex1W2 : W2.cell? ⟨w.heap.size, 1, none⟩ = some (.int .i64 x.alo) := cell_of_block ZxW2.out 1 (by simp)
      have ex2W2 : W2.cell? ⟨w.heap.size, 2, none⟩ = some (.int .i64 x.ahi) := cell_of_block ZxW2.out 2 (by simp)
      have ex3W2 : W2.cell? ⟨w.heap.size, 3, none⟩ = some (.int .i64 x.wlo) := cell_of_block ZxW2.out 3 (by simp)
      have ex4W2 : W2.cell? ⟨w.heap.size, 4, none⟩ = some (.int .i64 x.whi) := cell_of_block ZxW2.out 4 (by simp)
      have lxW2 := (Array.getElem?_eq_some_iff.1 ZxW2.out).1
      have ey0W2 : W2.cell? ⟨w.heap.size + 1, 0, none⟩ = some (.int .i64 y.day) := cell_of_block ZyW2.out 0 (by simp)
      have ey1W2 : W2.cell? ⟨w.heap.size + 1, 1, none⟩ = some (.int .i64 y.alo) := cell_of_block ZyW2.out 1 (by simp)
      have ey2W2 : W2.cell? ⟨w.heap.size + 1, 2, none⟩ = some (.int .i64 y.ahi) := cell_of_block ZyW2.out 2 (by simp)
      have ey3W2 : W2.cell? ⟨w.heap.size + 1, 3, none⟩ = some (.int .i64 y.wlo) := cell_of_block ZyW2.out 3 (by simp)
      have ey4W2 : W2.cell? ⟨w.heap.size + 1, 4, none⟩ = some (.int .i64 y.whi) := cell_of_block ZyW2.out 4 (by simp)
      have lyW2 := (Array.getElem?_eq_some_iff.1 ZyW2.out).1
      go_wp2_with fail
      go_ret
      exact ⟨rfl, HBW2.out⟩
    · by_cases p2 : y.whi * x.ahi < y.alo * x.wlo
      · rw [if_pos (.inr p2)] at hE
        subst hE
        go_enter Tryz.func37, Tryz.ntmps37
        go_wp2_with fail
        rw [HWc.out]
        go_wp2_with fail
        refine (Calls.grown (MT'.out _)).mono ?_
        rintro e w1 ⟨rfl, z1, rfl⟩
        go_upto_region 2 with (fail)
        obtain ⟨W2, hW2⟩ : ∃ W2, ((gw W1 z1)).alloc (.cells #[.int .i64 (meetC x y).day, .int .i64 (meetC x y).alo, .int .i64 (meetC x y).ahi, .int .i64 (meetC x y).wlo, .int .i64 (meetC x y).whi] 32) = W2 := ⟨_, rfl⟩
        have hbW2 : Below W1.heap.size W1 W2 := by rw [← hW2]; exact (below_gw W1 z1).alloc (by simp [gw_size]) _
        have ZxW2 := Lib.hid ((hbW2.block _ (Array.getElem?_eq_some_iff.1 Zc0.out).1).trans Zc0.out)
        have ZyW2 := Lib.hid ((hbW2.block _ (Array.getElem?_eq_some_iff.1 Zc1.out).1).trans Zc1.out)
        have zmW2 : W2.heap[W1.heap.size + z1.bs.size]? = some (.cells #[.int .i64 (meetC x y).day, .int .i64 (meetC x y).alo, .int .i64 (meetC x y).ahi, .int .i64 (meetC x y).wlo, .int .i64 (meetC x y).whi] 32 (0, 0)) := by rw [← hW2]; exact alloc_at (by simp [gw_size])
        have ZmW2 := Lib.hid zmW2; clear zmW2
        have HBW2 := Lib.hid (thru hbW2 HBc.out)
        have SBW2 := Lib.hid hbW2; clear hbW2
        have HWW2 := Lib.hid hW2; clear hW2
        rw [HWW2.out]
        clear c00 c01 c02 c03 c04 c10 c11 c12 c13 c14
        have ex0W2 : W2.cell? ⟨w.heap.size, 0, none⟩ = some (.int .i64 x.day) := cell_of_block ZxW2.out 0 (by simp)
        have ex1W2 : W2.cell? ⟨w.heap.size, 1, none⟩ = some (.int .i64 x.alo) := cell_of_block ZxW2.out 1 (by simp)
        have ex2W2 : W2.cell? ⟨w.heap.size, 2, none⟩ = some (.int .i64 x.ahi) := cell_of_block ZxW2.out 2 (by simp)
        have ex3W2 : W2.cell? ⟨w.heap.size, 3, none⟩ = some (.int .i64 x.wlo) := cell_of_block ZxW2.out 3 (by simp)
        have ex4W2 : W2.cell? ⟨w.heap.size, 4, none⟩ = some (.int .i64 x.whi) := cell_of_block ZxW2.out 4 (by simp)
        have lxW2 := (Array.getElem?_eq_some_iff.1 ZxW2.out).1
        have ey0W2 : W2.cell? ⟨w.heap.size + 1, 0, none⟩ = some (.int .i64 y.day) := cell_of_block ZyW2.out 0 (by simp)
        have ey1W2 : W2.cell? ⟨w.heap.size + 1, 1, none⟩ = some (.int .i64 y.alo) := cell_of_block ZyW2.out 1 (by simp)
        have ey2W2 : W2.cell? ⟨w.heap.size + 1, 2, none⟩ = some (.int .i64 y.ahi) := cell_of_block ZyW2.out 2 (by simp)
        have ey3W2 : W2.cell? ⟨w.heap.size + 1, 3, none⟩ = some (.int .i64 y.wlo) := cell_of_block ZyW2.out 3 (by simp)
        have ey4W2 : W2.cell? ⟨w.heap.size + 1, 4, none⟩ = some (.int .i64 y.whi) := cell_of_block ZyW2.out 4 (by simp)
        have lyW2 := (Array.getElem?_eq_some_iff.1 ZyW2.out).1
        go_wp2_with fail
        go_ret
        exact ⟨rfl, HBW2.out⟩
      · rw [if_neg (by rintro (h | h) <;> omega)] at hE
        by_cases p3 : x.whi < y.wlo
        · rw [if_pos (.inl p3)] at hE
          subst hE
          go_enter Tryz.func37, Tryz.ntmps37
          go_wp2_with fail
          rw [HWc.out]
          go_wp2_with fail
          refine (Calls.grown (MT'.out _)).mono ?_
          rintro e w1 ⟨rfl, z1, rfl⟩
          go_upto_region 2 with (fail)
          obtain ⟨W2, hW2⟩ : ∃ W2, ((gw W1 z1)).alloc (.cells #[.int .i64 (meetC x y).day, .int .i64 (meetC x y).alo, .int .i64 (meetC x y).ahi, .int .i64 (meetC x y).wlo, .int .i64 (meetC x y).whi] 32) = W2 := ⟨_, rfl⟩
          have hbW2 : Below W1.heap.size W1 W2 := by rw [← hW2]; exact (below_gw W1 z1).alloc (by simp [gw_size]) _
          have ZxW2 := Lib.hid ((hbW2.block _ (Array.getElem?_eq_some_iff.1 Zc0.out).1).trans Zc0.out)
          have ZyW2 := Lib.hid ((hbW2.block _ (Array.getElem?_eq_some_iff.1 Zc1.out).1).trans Zc1.out)
          have zmW2 : W2.heap[W1.heap.size + z1.bs.size]? = some (.cells #[.int .i64 (meetC x y).day, .int .i64 (meetC x y).alo, .int .i64 (meetC x y).ahi, .int .i64 (meetC x y).wlo, .int .i64 (meetC x y).whi] 32 (0, 0)) := by rw [← hW2]; exact alloc_at (by simp [gw_size])
          have ZmW2 := Lib.hid zmW2; clear zmW2
          have HBW2 := Lib.hid (thru hbW2 HBc.out)
          have SBW2 := Lib.hid hbW2; clear hbW2
          have HWW2 := Lib.hid hW2; clear hW2
          rw [HWW2.out]
          clear c00 c01 c02 c03 c04 c10 c11 c12 c13 c14
          have ex0W2 : W2.cell? ⟨w.heap.size, 0, none⟩ = some (.int .i64 x.day) := cell_of_block ZxW2.out 0 (by simp)
          have ex1W2 : W2.cell? ⟨w.heap.size, 1, none⟩ = some (.int .i64 x.alo) := cell_of_block ZxW2.out 1 (by simp)
          have ex2W2 : W2.cell? ⟨w.heap.size, 2, none⟩ = some (.int .i64 x.ahi) := cell_of_block ZxW2.out 2 (by simp)
          have ex3W2 : W2.cell? ⟨w.heap.size, 3, none⟩ = some (.int .i64 x.wlo) := cell_of_block ZxW2.out 3 (by simp)
          have ex4W2 : W2.cell? ⟨w.heap.size, 4, none⟩ = some (.int .i64 x.whi) := cell_of_block ZxW2.out 4 (by simp)
          have lxW2 := (Array.getElem?_eq_some_iff.1 ZxW2.out).1
          have ey0W2 : W2.cell? ⟨w.heap.size + 1, 0, none⟩ = some (.int .i64 y.day) := cell_of_block ZyW2.out 0 (by simp)
          have ey1W2 : W2.cell? ⟨w.heap.size + 1, 1, none⟩ = some (.int .i64 y.alo) := cell_of_block ZyW2.out 1 (by simp)
          have ey2W2 : W2.cell? ⟨w.heap.size + 1, 2, none⟩ = some (.int .i64 y.ahi) := cell_of_block ZyW2.out 2 (by simp)
          have ey3W2 : W2.cell? ⟨w.heap.size + 1, 3, none⟩ = some (.int .i64 y.wlo) := cell_of_block ZyW2.out 3 (by simp)
          have ey4W2 : W2.cell? ⟨w.heap.size + 1, 4, none⟩ = some (.int .i64 y.whi) := cell_of_block ZyW2.out 4 (by simp)
          have lyW2 := (Array.getElem?_eq_some_iff.1 ZyW2.out).1
          go_wp2_with fail
          go_ret
          exact ⟨rfl, HBW2.out⟩
        · by_cases p4 : y.ahi * x.whi < y.wlo * x.alo
          · rw [if_pos (.inr p4)] at hE
            subst hE
            go_enter Tryz.func37, Tryz.ntmps37
            go_wp2_with fail
            rw [HWc.out]
            go_wp2_with fail
            refine (Calls.grown (MT'.out _)).mono ?_
            rintro e w1 ⟨rfl, z1, rfl⟩
            go_upto_region 2 with (fail)
            obtain ⟨W2, hW2⟩ : ∃ W2, ((gw W1 z1)).alloc (.cells #[.int .i64 (meetC x y).day, .int .i64 (meetC x y).alo, .int .i64 (meetC x y).ahi, .int .i64 (meetC x y).wlo, .int .i64 (meetC x y).whi] 32) = W2 := ⟨_, rfl⟩
            have hbW2 : Below W1.heap.size W1 W2 := by rw [← hW2]; exact (below_gw W1 z1).alloc (by simp [gw_size]) _
            have ZxW2 := Lib.hid ((hbW2.block _ (Array.getElem?_eq_some_iff.1 Zc0.out).1).trans Zc0.out)
            have ZyW2 := Lib.hid ((hbW2.block _ (Array.getElem?_eq_some_iff.1 Zc1.out).1).trans Zc1.out)
            have zmW2 : W2.heap[W1.heap.size + z1.bs.size]? = some (.cells #[.int .i64 (meetC x y).day, .int .i64 (meetC x y).alo, .int .i64 (meetC x y).ahi, .int .i64 (meetC x y).wlo, .int .i64 (meetC x y).whi] 32 (0, 0)) := by rw [← hW2]; exact alloc_at (by simp [gw_size])
            have ZmW2 := Lib.hid zmW2; clear zmW2
            have HBW2 := Lib.hid (thru hbW2 HBc.out)
            have SBW2 := Lib.hid hbW2; clear hbW2
            have HWW2 := Lib.hid hW2; clear hW2
            rw [HWW2.out]
            clear c00 c01 c02 c03 c04 c10 c11 c12 c13 c14
            have ex0W2 : W2.cell? ⟨w.heap.size, 0, none⟩ = some (.int .i64 x.day) := cell_of_block ZxW2.out 0 (by simp)
            have ex1W2 : W2.cell? ⟨w.heap.size, 1, none⟩ = some (.int .i64 x.alo) := cell_of_block ZxW2.out 1 (by simp)
            have ex2W2 : W2.cell? ⟨w.heap.size, 2, none⟩ = some (.int .i64 x.ahi) := cell_of_block ZxW2.out 2 (by simp)
            have ex3W2 : W2.cell? ⟨w.heap.size, 3, none⟩ = some (.int .i64 x.wlo) := cell_of_block ZxW2.out 3 (by simp)
            have ex4W2 : W2.cell? ⟨w.heap.size, 4, none⟩ = some (.int .i64 x.whi) := cell_of_block ZxW2.out 4 (by simp)
            have lxW2 := (Array.getElem?_eq_some_iff.1 ZxW2.out).1
            have ey0W2 : W2.cell? ⟨w.heap.size + 1, 0, none⟩ = some (.int .i64 y.day) := cell_of_block ZyW2.out 0 (by simp)
            have ey1W2 : W2.cell? ⟨w.heap.size + 1, 1, none⟩ = some (.int .i64 y.alo) := cell_of_block ZyW2.out 1 (by simp)
            have ey2W2 : W2.cell? ⟨w.heap.size + 1, 2, none⟩ = some (.int .i64 y.ahi) := cell_of_block ZyW2.out 2 (by simp)
            have ey3W2 : W2.cell? ⟨w.heap.size + 1, 3, none⟩ = some (.int .i64 y.wlo) := cell_of_block ZyW2.out 3 (by simp)
            have ey4W2 : W2.cell? ⟨w.heap.size + 1, 4, none⟩ = some (.int .i64 y.whi) := cell_of_block ZyW2.out 4 (by simp)
            have lyW2 := (Array.getElem?_eq_some_iff.1 ZyW2.out).1
            go_wp2_with fail
            go_ret
            exact ⟨rfl, HBW2.out⟩
          · rw [if_neg (by rintro (h | h) <;> omega)] at hE
            subst hE
            go_enter Tryz.func37, Tryz.ntmps37
            go_wp2_with fail
            rw [HWc.out]
            go_wp2_with fail
            refine (Calls.grown (MT'.out _)).mono ?_
            rintro e w1 ⟨rfl, z1, rfl⟩
            go_upto_region 2 with (fail)
            obtain ⟨W2, hW2⟩ : ∃ W2, ((gw W1 z1)).alloc (.cells #[.int .i64 (meetC x y).day, .int .i64 (meetC x y).alo, .int .i64 (meetC x y).ahi, .int .i64 (meetC x y).wlo, .int .i64 (meetC x y).whi] 32) = W2 := ⟨_, rfl⟩
            have hbW2 : Below W1.heap.size W1 W2 := by rw [← hW2]; exact (below_gw W1 z1).alloc (by simp [gw_size]) _
            have ZxW2 := Lib.hid ((hbW2.block _ (Array.getElem?_eq_some_iff.1 Zc0.out).1).trans Zc0.out)
            have ZyW2 := Lib.hid ((hbW2.block _ (Array.getElem?_eq_some_iff.1 Zc1.out).1).trans Zc1.out)
            have zmW2 : W2.heap[W1.heap.size + z1.bs.size]? = some (.cells #[.int .i64 (meetC x y).day, .int .i64 (meetC x y).alo, .int .i64 (meetC x y).ahi, .int .i64 (meetC x y).wlo, .int .i64 (meetC x y).whi] 32 (0, 0)) := by rw [← hW2]; exact alloc_at (by simp [gw_size])
            have ZmW2 := Lib.hid zmW2; clear zmW2
            have HBW2 := Lib.hid (thru hbW2 HBc.out)
            have SBW2 := Lib.hid hbW2; clear hbW2
            have HWW2 := Lib.hid hW2; clear hW2
            rw [HWW2.out]
            clear c00 c01 c02 c03 c04 c10 c11 c12 c13 c14
            have ex0W2 : W2.cell? ⟨w.heap.size, 0, none⟩ = some (.int .i64 x.day) := cell_of_block ZxW2.out 0 (by simp)
            have ex1W2 : W2.cell? ⟨w.heap.size, 1, none⟩ = some (.int .i64 x.alo) := cell_of_block ZxW2.out 1 (by simp)
            have ex2W2 : W2.cell? ⟨w.heap.size, 2, none⟩ = some (.int .i64 x.ahi) := cell_of_block ZxW2.out 2 (by simp)
            have ex3W2 : W2.cell? ⟨w.heap.size, 3, none⟩ = some (.int .i64 x.wlo) := cell_of_block ZxW2.out 3 (by simp)
            have ex4W2 : W2.cell? ⟨w.heap.size, 4, none⟩ = some (.int .i64 x.whi) := cell_of_block ZxW2.out 4 (by simp)
            have lxW2 := (Array.getElem?_eq_some_iff.1 ZxW2.out).1
            have ey0W2 : W2.cell? ⟨w.heap.size + 1, 0, none⟩ = some (.int .i64 y.day) := cell_of_block ZyW2.out 0 (by simp)
            have ey1W2 : W2.cell? ⟨w.heap.size + 1, 1, none⟩ = some (.int .i64 y.alo) := cell_of_block ZyW2.out 1 (by simp)
            have ey2W2 : W2.cell? ⟨w.heap.size + 1, 2, none⟩ = some (.int .i64 y.ahi) := cell_of_block ZyW2.out 2 (by simp)
            have ey3W2 : W2.cell? ⟨w.heap.size + 1, 3, none⟩ = some (.int .i64 y.wlo) := cell_of_block ZyW2.out 3 (by simp)
            have ey4W2 : W2.cell? ⟨w.heap.size + 1, 4, none⟩ = some (.int .i64 y.whi) := cell_of_block ZyW2.out 4 (by simp)
            have lyW2 := (Array.getElem?_eq_some_iff.1 ZyW2.out).1
            go_wp2_with fail
            go_ret
            exact ⟨rfl, HBW2.out⟩
end Go.Proofs.YtjgnafhbeekebaaGreat.L7

namespace Go.Proofs.YtjgnafhbeekebaaGreat.L7
open Go.RowKit

attribute [local go_sem] gw_cell gw_frozen gw_size

theorem meetB_iff {x y : Cont} (hx : contB x = true) (hy : contB y = true) : meetB x y = true ↔ y.alo ≤ x.ahi ∧ x.alo ≤ y.ahi ∧ y.wlo ≤ x.whi ∧ x.wlo ≤ y.whi := by
  obtain ⟨-, ⟨x0, x1, x2⟩, x3, x4, x5⟩ := contB_t hx
  obtain ⟨-, ⟨y0, y1, y2⟩, y3, y4, y5⟩ := contB_t hy
  simp only [meetB, Bool.and_eq_true, decide_eq_true_eq, maxZ_eq, minZ_eq]
  omega

end Go.Proofs.YtjgnafhbeekebaaGreat.L7
