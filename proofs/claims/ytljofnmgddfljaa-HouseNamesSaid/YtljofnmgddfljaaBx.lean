/- Contract of shows; what a measurement shows. No conditions beyond each theorem's own. -/
import Derived.Test.YtljofnmgddfljaaBw
set_option linter.unusedVariables false
set_option linter.unusedSimpArgs false
set_option linter.unusedSectionVars false
set_option linter.constructorNameAsVariable false
namespace Go.Proofs.Ytljofnmgddfljaa
open Go.RowKit

attribute [local go_sem] gw_cell gw_frozen gw_size

/-- what a measurement shows -/
def showsN (x y : Cont) : Int :=
  if meetB x y = true then 0 else if x.ahi < y.alo ∨ y.whi * x.ahi < y.alo * x.wlo then 3 else if x.whi < y.wlo ∨ y.ahi * x.whi < y.wlo * x.alo then 2 else 1

set_option maxRecDepth 100000 in
set_option maxHeartbeats 4000000 in
theorem shows_any (x y : Cont) (w : World) (hx : contB x = true) (hy : contB y = true) :
    Calls Try.prog 58 #[x.val, y.val] w fun e w' => e = .returned (.int .i64 (showsN x y)) ∧ Below w.heap.size w w' := by
  obtain ⟨-, ⟨x0, x1, x2⟩, x3, x4, x5⟩ := contB_t hx
  obtain ⟨-, ⟨y0, y1, y2⟩, y3, y4, y5⟩ := contB_t hy
  clear hx hy
  obtain ⟨m1, m2⟩ := mul_le y0 (show y.alo ≤ 2147483648 by omega) x3 (show x.wlo ≤ 2147483648 by omega)
  obtain ⟨m3, m4⟩ := mul_le (show 0 ≤ y.whi by omega) y5 (show 0 ≤ x.ahi by omega) x2
  obtain ⟨m5, m6⟩ := mul_le y3 (show y.wlo ≤ 2147483648 by omega) x0 (show x.alo ≤ 2147483648 by omega)
  obtain ⟨m7, m8⟩ := mul_le (show 0 ≤ y.ahi by omega) y2 (show 0 ≤ x.whi by omega) x5
  obtain ⟨E, hE⟩ : ∃ E, showsN x y = E := ⟨_, rfl⟩
  rw [hE]
  unfold showsN at hE
  have MT := fun W => met_any x y W
  rw [show (meetC x y).val = .agg #[.int .i64 (meetC x y).day, .int .i64 (meetC x y).alo, .int .i64 (meetC x y).ahi, .int .i64 (meetC x y).wlo, .int .i64 (meetC x y).whi] from rfl] at MT
  unfold Cont.val at MT ⊢
  have MT' := Lib.hid MT; clear MT
  obtain ⟨W1, hW1⟩ : ∃ W1, (w.alloc (.cells #[.int .i64 x.day, .int .i64 x.alo, .int .i64 x.ahi, .int .i64 x.wlo, .int .i64 x.whi] 28)).alloc (.cells #[.int .i64 y.day, .int .i64 y.alo, .int .i64 y.ahi, .int .i64 y.wlo, .int .i64 y.whi] 28) = W1 := ⟨_, rfl⟩
  have hBc : Below w.heap.size w W1 := by rw [← hW1]; exact (below_alloc _ _).alloc (by simp) _
  have zc0 : W1.heap[w.heap.size]? = some (.cells #[.int .i64 x.day, .int .i64 x.alo, .int .i64 x.ahi, .int .i64 x.wlo, .int .i64 x.whi] 28 (0, 0)) := by rw [← hW1]; exact alloc_keep (alloc_at rfl)
  have zc1 : W1.heap[w.heap.size + 1]? = some (.cells #[.int .i64 y.day, .int .i64 y.alo, .int .i64 y.ahi, .int .i64 y.wlo, .int .i64 y.whi] 28 (0, 0)) := by rw [← hW1]; exact alloc_at (by simp)
  have c00 : W1.cell? ⟨w.heap.size, 0, none⟩ = some (.int .i64 x.day) := cell_of_block zc0 0 (by simp)
  have c01 : W1.cell? ⟨w.heap.size, 1, none⟩ = some (.int .i64 x.alo) := cell_of_block zc0 1 (by simp)
  have c02 : W1.cell? ⟨w.heap.size, 2, none⟩ = some (.int .i64 x.ahi) := cell_of_block zc0 2 (by simp)
  have c03 : W1.cell? ⟨w.heap.size, 3, none⟩ = some (.int .i64 x.wlo) := cell_of_block zc0 3 (by simp)
  have c04 : W1.cell? ⟨w.heap.size, 4, none⟩ = some (.int .i64 x.whi) := cell_of_block zc0 4 (by simp)
  have c10 : W1.cell? ⟨w.heap.size + 1, 0, none⟩ = some (.int .i64 y.day) := cell_of_block zc1 0 (by simp)
  have c11 : W1.cell? ⟨w.heap.size + 1, 1, none⟩ = some (.int .i64 y.alo) := cell_of_block zc1 1 (by simp)
  have c12 : W1.cell? ⟨w.heap.size + 1, 2, none⟩ = some (.int .i64 y.ahi) := cell_of_block zc1 2 (by simp)
  have c13 : W1.cell? ⟨w.heap.size + 1, 3, none⟩ = some (.int .i64 y.wlo) := cell_of_block zc1 3 (by simp)
  have c14 : W1.cell? ⟨w.heap.size + 1, 4, none⟩ = some (.int .i64 y.whi) := cell_of_block zc1 4 (by simp)
  have lc0 := (Array.getElem?_eq_some_iff.1 zc0).1
  have lc1 := (Array.getElem?_eq_some_iff.1 zc1).1
  have Zc0 := Lib.hid zc0
  have Zc1 := Lib.hid zc1
  clear zc0 zc1
  have HBc := Lib.hid hBc; clear hBc
  have HWc := Lib.hid hW1; clear hW1
  cases h0 : meetB x y with
  | true =>
    rw [if_pos h0] at hE
    subst hE
    rw [h0] at MT'
    go_enter Try.func58, Try.ntmps58
    go_wp2_with fail
    rw [HWc.out]
    go_wp2_with fail
    refine (Calls.grown (MT'.out _)).mono ?_
    rintro e w1 ⟨rfl, z1, rfl⟩
    go_upto_region 2 with (fail)
    obtain ⟨W2, hW2⟩ : ∃ W2, ((gw W1 z1)).alloc (.cells #[.int .i64 (meetC x y).day, .int .i64 (meetC x y).alo, .int .i64 (meetC x y).ahi, .int .i64 (meetC x y).wlo, .int .i64 (meetC x y).whi] 28) = W2 := ⟨_, rfl⟩
    have hbW2 : Below W1.heap.size W1 W2 := by rw [← hW2]; exact (below_gw W1 z1).alloc (by simp [gw_size]) _
    have ZxW2 := Lib.hid ((hbW2.block _ (Array.getElem?_eq_some_iff.1 Zc0.out).1).trans Zc0.out)
    have ZyW2 := Lib.hid ((hbW2.block _ (Array.getElem?_eq_some_iff.1 Zc1.out).1).trans Zc1.out)
    have zmW2 : W2.heap[W1.heap.size + z1.bs.size]? = some (.cells #[.int .i64 (meetC x y).day, .int .i64 (meetC x y).alo, .int .i64 (meetC x y).ahi, .int .i64 (meetC x y).wlo, .int .i64 (meetC x y).whi] 28 (0, 0)) := by rw [← hW2]; exact alloc_at (by simp [gw_size])
    have ZmW2 := Lib.hid zmW2; clear zmW2
    have HBW2 := Lib.hid (thru hbW2 HBc.out)
    have SBW2 := Lib.hid hbW2; clear hbW2
    have HWW2 := Lib.hid hW2; clear hW2
    rw [HWW2.out]
    clear c00 c01 c02 c03 c04 c10 c11 c12 c13 c14
    have ex0W2 : W2.cell? ⟨w.heap.size, 0, none⟩ = some (.int .i64 x.day) := cell_of_block ZxW2.out 0 (by simp)
    have ex1W2 : W2.cell? ⟨w.heap.size, 1, none⟩ = some (.int .i64 x.alo) := cell_of_block ZxW2.out 1 (by simp)
    have ex2W2 : W2.cell? ⟨w.heap.size, 2, none⟩ = some (.int .i64 x.ahi) := cell_of_block ZxW2.out 2 (by simp)
    have ex3W2 : W2.cell? ⟨w.heap.size, 3, none⟩ = some (.int .i64 x.wlo) := cell_of_block ZxW2.out 3 (by simp)
    have ex4W2 : W2.cell? ⟨w.heap.size, 4, none⟩ = some (.int .i64 x.whi) := cell_of_block ZxW2.out 4 (by simp)
    have lxW2 := (Array.getElem?_eq_some_iff.1 ZxW2.out).1
    have ey0W2 : W2.cell? ⟨w.heap.size + 1, 0, none⟩ = some (.int .i64 y.day) := cell_of_block ZyW2.out 0 (by simp)
    have ey1W2 : W2.cell? ⟨w.heap.size + 1, 1, none⟩ = some (.int .i64 y.alo) := cell_of_block ZyW2.out 1 (by simp)
    have ey2W2 : W2.cell? ⟨w.heap.size + 1, 2, none⟩ = some (.int .i64 y.ahi) := cell_of_block ZyW2.out 2 (by simp)
    have ey3W2 : W2.cell? ⟨w.heap.size + 1, 3, none⟩ = some (.int .i64 y.wlo) := cell_of_block ZyW2.out 3 (by simp)
    have ey4W2 : W2.cell? ⟨w.heap.size + 1, 4, none⟩ = some (.int .i64 y.whi) := cell_of_block ZyW2.out 4 (by simp)
    have lyW2 := (Array.getElem?_eq_some_iff.1 ZyW2.out).1
    go_wp2_with fail
    go_ret
    exact ⟨rfl, HBW2.out⟩
  | false =>
    rw [if_neg (by rw [h0]; simp)] at hE
    rw [h0] at MT'
    by_cases p1 : x.ahi < y.alo
    · rw [if_pos (.inl p1)] at hE
      subst hE
      go_enter Try.func58, Try.ntmps58
      go_wp2_with fail
      rw [HWc.out]
      go_wp2_with fail
      refine (Calls.grown (MT'.out _)).mono ?_
      rintro e w1 ⟨rfl, z1, rfl⟩
      go_upto_region 2 with (fail)
      obtain ⟨W2, hW2⟩ : ∃ W2, ((gw W1 z1)).alloc (.cells #[.int .i64 (meetC x y).day, .int .i64 (meetC x y).alo, .int .i64 (meetC x y).ahi, .int .i64 (meetC x y).wlo, .int .i64 (meetC x y).whi] 28) = W2 := ⟨_, rfl⟩
      have hbW2 : Below W1.heap.size W1 W2 := by rw [← hW2]; exact (below_gw W1 z1).alloc (by simp [gw_size]) _
      have ZxW2 := Lib.hid ((hbW2.block _ (Array.getElem?_eq_some_iff.1 Zc0.out).1).trans Zc0.out)
      have ZyW2 := Lib.hid ((hbW2.block _ (Array.getElem?_eq_some_iff.1 Zc1.out).1).trans Zc1.out)
      have zmW2 : W2.heap[W1.heap.size + z1.bs.size]? = some (.cells #[.int .i64 (meetC x y).day, .int .i64 (meetC x y).alo, .int .i64 (meetC x y).ahi, .int .i64 (meetC x y).wlo, .int .i64 (meetC x y).whi] 28 (0, 0)) := by rw [← hW2]; exact alloc_at (by simp [gw_size])
      have ZmW2 := Lib.hid zmW2; clear zmW2
      have HBW2 := Lib.hid (thru hbW2 HBc.out)
      have SBW2 := Lib.hid hbW2; clear hbW2
      have HWW2 := Lib.hid hW2; clear hW2
      rw [HWW2.out]
      clear c00 c01 c02 c03 c04 c10 c11 c12 c13 c14
      have ex0W2 : W2.cell? ⟨w.heap.size, 0, none⟩ = some (.int .i64 x.day) := cell_of_block ZxW2.out 0 (by simp)
      have ex1W2 : W2.cell? ⟨w.heap.size, 1, none⟩ = some (.int .i64 x.alo) := cell_of_block ZxW2.out 1 (by simp)
      have ex2W2 : W2.cell? ⟨w.heap.size, 2, none⟩ = some (.int .i64 x.ahi) := cell_of_block ZxW2.out 2 (by simp)
      have ex3W2 : W2.cell? ⟨w.heap.size, 3, none⟩ = some (.int .i64 x.wlo) := cell_of_block ZxW2.out 3 (by simp)
      have ex4W2 : W2.cell? ⟨w.heap.size, 4, none⟩ = some (.int .i64 x.whi) := cell_of_block ZxW2.out 4 (by simp)
      have lxW2 := (Array.getElem?_eq_some_iff.1 ZxW2.out).1
      have ey0W2 : W2.cell? ⟨w.heap.size + 1, 0, none⟩ = some (.int .i64 y.day) := cell_of_block ZyW2.out 0 (by simp)
      have ey1W2 : W2.cell? ⟨w.heap.size + 1, 1, none⟩ = some (.int .i64 y.alo) := cell_of_block ZyW2.out 1 (by simp)
      have ey2W2 : W2.cell? ⟨w.heap.size + 1, 2, none⟩ = some (.int .i64 y.ahi) := cell_of_block ZyW2.out 2 (by simp)
      have ey3W2 : W2.cell? ⟨w.heap.size + 1, 3, none⟩ = some (.int .i64 y.wlo) := cell_of_block ZyW2.out 3 (by simp)
      have ey4W2 : W2.cell? ⟨w.heap.size + 1, 4, none⟩ = some (.int .i64 y.whi) := cell_of_block ZyW2.out 4 (by simp)
      have lyW2 := (Array.getElem?_eq_some_iff.1 ZyW2.out).1
      go_wp2_with fail
      go_ret
      exact ⟨rfl, HBW2.out⟩
    · by_cases p2 : y.whi * x.ahi < y.alo * x.wlo
      · rw [if_pos (.inr p2)] at hE
        subst hE
        go_enter Try.func58, Try.ntmps58
        go_wp2_with fail
        rw [HWc.out]
        go_wp2_with fail
        refine (Calls.grown (MT'.out _)).mono ?_
        rintro e w1 ⟨rfl, z1, rfl⟩
        go_upto_region 2 with (fail)
        obtain ⟨W2, hW2⟩ : ∃ W2, ((gw W1 z1)).alloc (.cells #[.int .i64 (meetC x y).day, .int .i64 (meetC x y).alo, .int .i64 (meetC x y).ahi, .int .i64 (meetC x y).wlo, .int .i64 (meetC x y).whi] 28) = W2 := ⟨_, rfl⟩
        have hbW2 : Below W1.heap.size W1 W2 := by rw [← hW2]; exact (below_gw W1 z1).alloc (by simp [gw_size]) _
        have ZxW2 := Lib.hid ((hbW2.block _ (Array.getElem?_eq_some_iff.1 Zc0.out).1).trans Zc0.out)
        have ZyW2 := Lib.hid ((hbW2.block _ (Array.getElem?_eq_some_iff.1 Zc1.out).1).trans Zc1.out)
        have zmW2 : W2.heap[W1.heap.size + z1.bs.size]? = some (.cells #[.int .i64 (meetC x y).day, .int .i64 (meetC x y).alo, .int .i64 (meetC x y).ahi, .int .i64 (meetC x y).wlo, .int .i64 (meetC x y).whi] 28 (0, 0)) := by rw [← hW2]; exact alloc_at (by simp [gw_size])
        have ZmW2 := Lib.hid zmW2; clear zmW2
        have HBW2 := Lib.hid (thru hbW2 HBc.out)
        have SBW2 := Lib.hid hbW2; clear hbW2
        have HWW2 := Lib.hid hW2; clear hW2
        rw [HWW2.out]
        clear c00 c01 c02 c03 c04 c10 c11 c12 c13 c14
        have ex0W2 : W2.cell? ⟨w.heap.size, 0, none⟩ = some (.int .i64 x.day) := cell_of_block ZxW2.out 0 (by simp)
        have ex1W2 : W2.cell? ⟨w.heap.size, 1, none⟩ = some (.int .i64 x.alo) := cell_of_block ZxW2.out 1 (by simp)
        have ex2W2 : W2.cell? ⟨w.heap.size, 2, none⟩ = some (.int .i64 x.ahi) := cell_of_block ZxW2.out 2 (by simp)
        have ex3W2 : W2.cell? ⟨w.heap.size, 3, none⟩ = some (.int .i64 x.wlo) := cell_of_block ZxW2.out 3 (by simp)
        have ex4W2 : W2.cell? ⟨w.heap.size, 4, none⟩ = some (.int .i64 x.whi) := cell_of_block ZxW2.out 4 (by simp)
        have lxW2 := (Array.getElem?_eq_some_iff.1 ZxW2.out).1
        have ey0W2 : W2.cell? ⟨w.heap.size + 1, 0, none⟩ = some (.int .i64 y.day) := cell_of_block ZyW2.out 0 (by simp)
        have ey1W2 : W2.cell? ⟨w.heap.size + 1, 1, none⟩ = some (.int .i64 y.alo) := cell_of_block ZyW2.out 1 (by simp)
        have ey2W2 : W2.cell? ⟨w.heap.size + 1, 2, none⟩ = some (.int .i64 y.ahi) := cell_of_block ZyW2.out 2 (by simp)
        have ey3W2 : W2.cell? ⟨w.heap.size + 1, 3, none⟩ = some (.int .i64 y.wlo) := cell_of_block ZyW2.out 3 (by simp)
        have ey4W2 : W2.cell? ⟨w.heap.size + 1, 4, none⟩ = some (.int .i64 y.whi) := cell_of_block ZyW2.out 4 (by simp)
        have lyW2 := (Array.getElem?_eq_some_iff.1 ZyW2.out).1
        go_wp2_with fail
        go_ret
        exact ⟨rfl, HBW2.out⟩
      · rw [if_neg (by rintro (h | h) <;> omega)] at hE
        by_cases p3 : x.whi < y.wlo
        · rw [if_pos (.inl p3)] at hE
          subst hE
          go_enter Try.func58, Try.ntmps58
          go_wp2_with fail
          rw [HWc.out]
          go_wp2_with fail
          refine (Calls.grown (MT'.out _)).mono ?_
          rintro e w1 ⟨rfl, z1, rfl⟩
          go_upto_region 2 with (fail)
          obtain ⟨W2, hW2⟩ : ∃ W2, ((gw W1 z1)).alloc (.cells #[.int .i64 (meetC x y).day, .int .i64 (meetC x y).alo, .int .i64 (meetC x y).ahi, .int .i64 (meetC x y).wlo, .int .i64 (meetC x y).whi] 28) = W2 := ⟨_, rfl⟩
          have hbW2 : Below W1.heap.size W1 W2 := by rw [← hW2]; exact (below_gw W1 z1).alloc (by simp [gw_size]) _
          have ZxW2 := Lib.hid ((hbW2.block _ (Array.getElem?_eq_some_iff.1 Zc0.out).1).trans Zc0.out)
          have ZyW2 := Lib.hid ((hbW2.block _ (Array.getElem?_eq_some_iff.1 Zc1.out).1).trans Zc1.out)
          have zmW2 : W2.heap[W1.heap.size + z1.bs.size]? = some (.cells #[.int .i64 (meetC x y).day, .int .i64 (meetC x y).alo, .int .i64 (meetC x y).ahi, .int .i64 (meetC x y).wlo, .int .i64 (meetC x y).whi] 28 (0, 0)) := by rw [← hW2]; exact alloc_at (by simp [gw_size])
          have ZmW2 := Lib.hid zmW2; clear zmW2
          have HBW2 := Lib.hid (thru hbW2 HBc.out)
          have SBW2 := Lib.hid hbW2; clear hbW2
          have HWW2 := Lib.hid hW2; clear hW2
          rw [HWW2.out]
          clear c00 c01 c02 c03 c04 c10 c11 c12 c13 c14
          have ex0W2 : W2.cell? ⟨w.heap.size, 0, none⟩ = some (.int .i64 x.day) := cell_of_block ZxW2.out 0 (by simp)
          have ex1W2 : W2.cell? ⟨w.heap.size, 1, none⟩ = some (.int .i64 x.alo) := cell_of_block ZxW2.out 1 (by simp)
          have ex2W2 : W2.cell? ⟨w.heap.size, 2, none⟩ = some (.int .i64 x.ahi) := cell_of_block ZxW2.out 2 (by simp)
          have ex3W2 : W2.cell? ⟨w.heap.size, 3, none⟩ = some (.int .i64 x.wlo) := cell_of_block ZxW2.out 3 (by simp)
          have ex4W2 : W2.cell? ⟨w.heap.size, 4, none⟩ = some (.int .i64 x.whi) := cell_of_block ZxW2.out 4 (by simp)
          have lxW2 := (Array.getElem?_eq_some_iff.1 ZxW2.out).1
          have ey0W2 : W2.cell? ⟨w.heap.size + 1, 0, none⟩ = some (.int .i64 y.day) := cell_of_block ZyW2.out 0 (by simp)
          have ey1W2 : W2.cell? ⟨w.heap.size + 1, 1, none⟩ = some (.int .i64 y.alo) := cell_of_block ZyW2.out 1 (by simp)
          have ey2W2 : W2.cell? ⟨w.heap.size + 1, 2, none⟩ = some (.int .i64 y.ahi) := cell_of_block ZyW2.out 2 (by simp)
          have ey3W2 : W2.cell? ⟨w.heap.size + 1, 3, none⟩ = some (.int .i64 y.wlo) := cell_of_block ZyW2.out 3 (by simp)
          have ey4W2 : W2.cell? ⟨w.heap.size + 1, 4, none⟩ = some (.int .i64 y.whi) := cell_of_block ZyW2.out 4 (by simp)
          have lyW2 := (Array.getElem?_eq_some_iff.1 ZyW2.out).1
          go_wp2_with fail
          go_ret
          exact ⟨rfl, HBW2.out⟩
        · by_cases p4 : y.ahi * x.whi < y.wlo * x.alo
          · rw [if_pos (.inr p4)] at hE
            subst hE
            go_enter Try.func58, Try.ntmps58
            go_wp2_with fail
            rw [HWc.out]
            go_wp2_with fail
            refine (Calls.grown (MT'.out _)).mono ?_
            rintro e w1 ⟨rfl, z1, rfl⟩
            go_upto_region 2 with (fail)
            obtain ⟨W2, hW2⟩ : ∃ W2, ((gw W1 z1)).alloc (.cells #[.int .i64 (meetC x y).day, .int .i64 (meetC x y).alo, .int .i64 (meetC x y).ahi, .int .i64 (meetC x y).wlo, .int .i64 (meetC x y).whi] 28) = W2 := ⟨_, rfl⟩
            have hbW2 : Below W1.heap.size W1 W2 := by rw [← hW2]; exact (below_gw W1 z1).alloc (by simp [gw_size]) _
            have ZxW2 := Lib.hid ((hbW2.block _ (Array.getElem?_eq_some_iff.1 Zc0.out).1).trans Zc0.out)
            have ZyW2 := Lib.hid ((hbW2.block _ (Array.getElem?_eq_some_iff.1 Zc1.out).1).trans Zc1.out)
            have zmW2 : W2.heap[W1.heap.size + z1.bs.size]? = some (.cells #[.int .i64 (meetC x y).day, .int .i64 (meetC x y).alo, .int .i64 (meetC x y).ahi, .int .i64 (meetC x y).wlo, .int .i64 (meetC x y).whi] 28 (0, 0)) := by rw [← hW2]; exact alloc_at (by simp [gw_size])
            have ZmW2 := Lib.hid zmW2; clear zmW2
            have HBW2 := Lib.hid (thru hbW2 HBc.out)
            have SBW2 := Lib.hid hbW2; clear hbW2
            have HWW2 := Lib.hid hW2; clear hW2
            rw [HWW2.out]
            clear c00 c01 c02 c03 c04 c10 c11 c12 c13 c14
            have ex0W2 : W2.cell? ⟨w.heap.size, 0, none⟩ = some (.int .i64 x.day) := cell_of_block ZxW2.out 0 (by simp)
            have ex1W2 : W2.cell? ⟨w.heap.size, 1, none⟩ = some (.int .i64 x.alo) := cell_of_block ZxW2.out 1 (by simp)
            have ex2W2 : W2.cell? ⟨w.heap.size, 2, none⟩ = some (.int .i64 x.ahi) := cell_of_block ZxW2.out 2 (by simp)
            have ex3W2 : W2.cell? ⟨w.heap.size, 3, none⟩ = some (.int .i64 x.wlo) := cell_of_block ZxW2.out 3 (by simp)
            have ex4W2 : W2.cell? ⟨w.heap.size, 4, none⟩ = some (.int .i64 x.whi) := cell_of_block ZxW2.out 4 (by simp)
            have lxW2 := (Array.getElem?_eq_some_iff.1 ZxW2.out).1
            have ey0W2 : W2.cell? ⟨w.heap.size + 1, 0, none⟩ = some (.int .i64 y.day) := cell_of_block ZyW2.out 0 (by simp)
            have ey1W2 : W2.cell? ⟨w.heap.size + 1, 1, none⟩ = some (.int .i64 y.alo) := cell_of_block ZyW2.out 1 (by simp)
            have ey2W2 : W2.cell? ⟨w.heap.size + 1, 2, none⟩ = some (.int .i64 y.ahi) := cell_of_block ZyW2.out 2 (by simp)
            have ey3W2 : W2.cell? ⟨w.heap.size + 1, 3, none⟩ = some (.int .i64 y.wlo) := cell_of_block ZyW2.out 3 (by simp)
            have ey4W2 : W2.cell? ⟨w.heap.size + 1, 4, none⟩ = some (.int .i64 y.whi) := cell_of_block ZyW2.out 4 (by simp)
            have lyW2 := (Array.getElem?_eq_some_iff.1 ZyW2.out).1
            go_wp2_with fail
            go_ret
            exact ⟨rfl, HBW2.out⟩
          · rw [if_neg (by rintro (h | h) <;> omega)] at hE
            subst hE
            go_enter Try.func58, Try.ntmps58
            go_wp2_with fail
            rw [HWc.out]
            go_wp2_with fail
            refine (Calls.grown (MT'.out _)).mono ?_
            rintro e w1 ⟨rfl, z1, rfl⟩
            go_upto_region 2 with (fail)
            obtain ⟨W2, hW2⟩ : ∃ W2, ((gw W1 z1)).alloc (.cells #[.int .i64 (meetC x y).day, .int .i64 (meetC x y).alo, .int .i64 (meetC x y).ahi, .int .i64 (meetC x y).wlo, .int .i64 (meetC x y).whi] 28) = W2 := ⟨_, rfl⟩
            have hbW2 : Below W1.heap.size W1 W2 := by rw [← hW2]; exact (below_gw W1 z1).alloc (by simp [gw_size]) _
            have ZxW2 := Lib.hid ((hbW2.block _ (Array.getElem?_eq_some_iff.1 Zc0.out).1).trans Zc0.out)
            have ZyW2 := Lib.hid ((hbW2.block _ (Array.getElem?_eq_some_iff.1 Zc1.out).1).trans Zc1.out)
            have zmW2 : W2.heap[W1.heap.size + z1.bs.size]? = some (.cells #[.int .i64 (meetC x y).day, .int .i64 (meetC x y).alo, .int .i64 (meetC x y).ahi, .int .i64 (meetC x y).wlo, .int .i64 (meetC x y).whi] 28 (0, 0)) := by rw [← hW2]; exact alloc_at (by simp [gw_size])
            have ZmW2 := Lib.hid zmW2; clear zmW2
            have HBW2 := Lib.hid (thru hbW2 HBc.out)
            have SBW2 := Lib.hid hbW2; clear hbW2
            have HWW2 := Lib.hid hW2; clear hW2
            rw [HWW2.out]
            clear c00 c01 c02 c03 c04 c10 c11 c12 c13 c14
            have ex0W2 : W2.cell? ⟨w.heap.size, 0, none⟩ = some (.int .i64 x.day) := cell_of_block ZxW2.out 0 (by simp)
            have ex1W2 : W2.cell? ⟨w.heap.size, 1, none⟩ = some (.int .i64 x.alo) := cell_of_block ZxW2.out 1 (by simp)
            have ex2W2 : W2.cell? ⟨w.heap.size, 2, none⟩ = some (.int .i64 x.ahi) := cell_of_block ZxW2.out 2 (by simp)
            have ex3W2 : W2.cell? ⟨w.heap.size, 3, none⟩ = some (.int .i64 x.wlo) := cell_of_block ZxW2.out 3 (by simp)
            have ex4W2 : W2.cell? ⟨w.heap.size, 4, none⟩ = some (.int .i64 x.whi) := cell_of_block ZxW2.out 4 (by simp)
            have lxW2 := (Array.getElem?_eq_some_iff.1 ZxW2.out).1
            have ey0W2 : W2.cell? ⟨w.heap.size + 1, 0, none⟩ = some (.int .i64 y.day) := cell_of_block ZyW2.out 0 (by simp)
            have ey1W2 : W2.cell? ⟨w.heap.size + 1, 1, none⟩ = some (.int .i64 y.alo) := cell_of_block ZyW2.out 1 (by simp)
            have ey2W2 : W2.cell? ⟨w.heap.size + 1, 2, none⟩ = some (.int .i64 y.ahi) := cell_of_block ZyW2.out 2 (by simp)
            have ey3W2 : W2.cell? ⟨w.heap.size + 1, 3, none⟩ = some (.int .i64 y.wlo) := cell_of_block ZyW2.out 3 (by simp)
            have ey4W2 : W2.cell? ⟨w.heap.size + 1, 4, none⟩ = some (.int .i64 y.whi) := cell_of_block ZyW2.out 4 (by simp)
            have lyW2 := (Array.getElem?_eq_some_iff.1 ZyW2.out).1
            go_wp2_with fail
            go_ret
            exact ⟨rfl, HBW2.out⟩
end Go.Proofs.Ytljofnmgddfljaa
