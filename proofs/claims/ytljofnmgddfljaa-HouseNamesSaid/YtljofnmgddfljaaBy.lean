/- Contract of the reference's shows. No conditions beyond each theorem's own. -/
import Derived.Test.YtljofnmgddfljaaBx
set_option linter.unusedVariables false
set_option linter.unusedSimpArgs false
set_option linter.unusedSectionVars false
set_option linter.constructorNameAsVariable false
namespace Go.Proofs.Ytljofnmgddfljaa
open Go.RowKit

attribute [local go_sem] gw_cell gw_frozen gw_size

theorem meetB_iff {x y : Cont} (hx : contB x = true) (hy : contB y = true) : meetB x y = true ↔ y.alo ≤ x.ahi ∧ x.alo ≤ y.ahi ∧ y.wlo ≤ x.whi ∧ x.wlo ≤ y.whi := by
  obtain ⟨-, ⟨x0, x1, x2⟩, x3, x4, x5⟩ := contB_t hx
  obtain ⟨-, ⟨y0, y1, y2⟩, y3, y4, y5⟩ := contB_t hy
  simp only [meetB, Bool.and_eq_true, decide_eq_true_eq, maxZ_eq, minZ_eq]
  omega

set_option maxRecDepth 100000 in
set_option maxHeartbeats 4000000 in
theorem rshows_any (x : Cont) (m : Reg) (w : World) (hx : contB x = true) (hm : regB m = true) :
    Calls Try.prog 56 #[x.val, m.val] w fun e w' => e = .returned (.int .i64 (showsN x (measC m))) ∧ Below w.heap.size w w' := by
  have hy := measC_ok hm
  have MB := meetB_iff hx hy
  have MT := fun W => rMeasured_any m W hm
  obtain ⟨E, hE⟩ : ∃ E, showsN x (measC m) = E := ⟨_, rfl⟩
  rw [hE]
  unfold showsN at hE
  generalize measC m = y at *
  obtain ⟨-, ⟨x0, x1, x2⟩, x3, x4, x5⟩ := contB_t hx
  obtain ⟨-, ⟨y0, y1, y2⟩, y3, y4, y5⟩ := contB_t hy
  clear hx hy hm
  obtain ⟨m1, m2⟩ := mul_le y0 (show y.alo ≤ 2147483648 by omega) x3 (show x.wlo ≤ 2147483648 by omega)
  obtain ⟨m3, m4⟩ := mul_le (show 0 ≤ y.whi by omega) y5 (show 0 ≤ x.ahi by omega) x2
  obtain ⟨m5, m6⟩ := mul_le y3 (show y.wlo ≤ 2147483648 by omega) x0 (show x.alo ≤ 2147483648 by omega)
  obtain ⟨m7, m8⟩ := mul_le (show 0 ≤ y.ahi by omega) y2 (show 0 ≤ x.whi by omega) x5
  have MT' := Lib.hid MT; clear MT
  have MB' := Lib.hid MB; clear MB
  have HE := Lib.hid hE; clear hE
  unfold Cont.val
  unfold Reg.val at MT' ⊢
  obtain ⟨W1, hW1⟩ : ∃ W1, (w.alloc (.cells #[.int .i64 x.day, .int .i64 x.alo, .int .i64 x.ahi, .int .i64 x.wlo, .int .i64 x.whi] 28)).alloc (.cells #[.int .i64 m.day, .int .i64 m.vlo, .int .i64 m.vhi, .int .i64 m.slo, .int .i64 m.shi] 44) = W1 := ⟨_, rfl⟩
  have hBc : Below w.heap.size w W1 := by rw [← hW1]; exact (below_alloc _ _).alloc (by simp) _
  have zc0 : W1.heap[w.heap.size]? = some (.cells #[.int .i64 x.day, .int .i64 x.alo, .int .i64 x.ahi, .int .i64 x.wlo, .int .i64 x.whi] 28 (0, 0)) := by rw [← hW1]; exact alloc_keep (alloc_at rfl)
  have zc1 : W1.heap[w.heap.size + 1]? = some (.cells #[.int .i64 m.day, .int .i64 m.vlo, .int .i64 m.vhi, .int .i64 m.slo, .int .i64 m.shi] 44 (0, 0)) := by rw [← hW1]; exact alloc_at (by simp)
  have c00 : W1.cell? ⟨w.heap.size, 0, none⟩ = some (.int .i64 x.day) := cell_of_block zc0 0 (by simp)
  have c01 : W1.cell? ⟨w.heap.size, 1, none⟩ = some (.int .i64 x.alo) := cell_of_block zc0 1 (by simp)
  have c02 : W1.cell? ⟨w.heap.size, 2, none⟩ = some (.int .i64 x.ahi) := cell_of_block zc0 2 (by simp)
  have c03 : W1.cell? ⟨w.heap.size, 3, none⟩ = some (.int .i64 x.wlo) := cell_of_block zc0 3 (by simp)
  have c04 : W1.cell? ⟨w.heap.size, 4, none⟩ = some (.int .i64 x.whi) := cell_of_block zc0 4 (by simp)
  have c10 : W1.cell? ⟨w.heap.size + 1, 0, none⟩ = some (.int .i64 m.day) := cell_of_block zc1 0 (by simp)
  have c11 : W1.cell? ⟨w.heap.size + 1, 1, none⟩ = some (.int .i64 m.vlo) := cell_of_block zc1 1 (by simp)
  have c12 : W1.cell? ⟨w.heap.size + 1, 2, none⟩ = some (.int .i64 m.vhi) := cell_of_block zc1 2 (by simp)
  have c13 : W1.cell? ⟨w.heap.size + 1, 3, none⟩ = some (.int .i64 m.slo) := cell_of_block zc1 3 (by simp)
  have c14 : W1.cell? ⟨w.heap.size + 1, 4, none⟩ = some (.int .i64 m.shi) := cell_of_block zc1 4 (by simp)
  have lc0 := (Array.getElem?_eq_some_iff.1 zc0).1
  have lc1 := (Array.getElem?_eq_some_iff.1 zc1).1
  have Zc0 := Lib.hid zc0
  have Zc1 := Lib.hid zc1
  clear zc0 zc1
  have HBc := Lib.hid hBc; clear hBc
  have HWc := Lib.hid hW1; clear hW1
  by_cases c1 : y.alo ≤ x.ahi
  · by_cases c2 : x.alo ≤ y.ahi
    · by_cases c3 : y.wlo ≤ x.whi
      · by_cases c4 : x.wlo ≤ y.whi
        · have EV : E = 0 := by
            rw [← HE.out]
            exact if_pos (MB'.out.2 (by omega))
          subst EV
          go_enter Try.func56, Try.ntmps56
          go_wp2_with fail
          rw [HWc.out]
          go_wp2_with fail
          refine (Calls.grown (MT'.out _)).mono ?_
          rintro e w1 ⟨rfl, z1, rfl⟩
          go_upto_region 2 with (fail)
          obtain ⟨W2, hW2⟩ : ∃ W2, (((gw W1 z1)).alloc (.cells #[.int .i64 y.alo, .int .i64 y.ahi] 26)).alloc (.cells #[.int .i64 y.wlo, .int .i64 y.whi] 26) = W2 := ⟨_, rfl⟩
          have hbW2 : Below W1.heap.size W1 W2 := by rw [← hW2]; exact ((below_gw W1 z1).alloc (by simp [gw_size]) _).alloc (by simp [gw_size] <;> omega) _
          have ZxW2 := Lib.hid ((hbW2.block _ (Array.getElem?_eq_some_iff.1 Zc0.out).1).trans Zc0.out)
          have zaW2 : W2.heap[W1.heap.size + z1.bs.size]? = some (.cells #[.int .i64 y.alo, .int .i64 y.ahi] 26 (0, 0)) := by rw [← hW2]; exact alloc_keep (alloc_at (by simp [gw_size]))
          have ZaW2 := Lib.hid zaW2; clear zaW2
          have zbW2 : W2.heap[W1.heap.size + z1.bs.size + 1]? = some (.cells #[.int .i64 y.wlo, .int .i64 y.whi] 26 (0, 0)) := by rw [← hW2]; exact alloc_at (by simp [gw_size] <;> omega)
          have ZbW2 := Lib.hid zbW2; clear zbW2
          have HBW2 := Lib.hid (thru hbW2 HBc.out)
          have SBW2 := Lib.hid hbW2; clear hbW2
          have HWW2 := Lib.hid hW2; clear hW2
          rw [HWW2.out]
          clear c00 c01 c02 c03 c04 c10 c11 c12 c13 c14
          have ex0W2 : W2.cell? ⟨w.heap.size, 0, none⟩ = some (.int .i64 x.day) := cell_of_block ZxW2.out 0 (by simp)
          have ex1W2 : W2.cell? ⟨w.heap.size, 1, none⟩ = some (.int .i64 x.alo) := cell_of_block ZxW2.out 1 (by simp)
          have ex2W2 : W2.cell? ⟨w.heap.size, 2, none⟩ = some (.int .i64 x.ahi) := cell_of_block ZxW2.out 2 (by simp)
          have ex3W2 : W2.cell? ⟨w.heap.size, 3, none⟩ = some (.int .i64 x.wlo) := cell_of_block ZxW2.out 3 (by simp)
          have ex4W2 : W2.cell? ⟨w.heap.size, 4, none⟩ = some (.int .i64 x.whi) := cell_of_block ZxW2.out 4 (by simp)
          have lxW2 := (Array.getElem?_eq_some_iff.1 ZxW2.out).1
          have ea0W2 : W2.cell? ⟨W1.heap.size + z1.bs.size, 0, none⟩ = some (.int .i64 y.alo) := cell_of_block ZaW2.out 0 (by simp)
          have ea1W2 : W2.cell? ⟨W1.heap.size + z1.bs.size, 1, none⟩ = some (.int .i64 y.ahi) := cell_of_block ZaW2.out 1 (by simp)
          have laW2 := (Array.getElem?_eq_some_iff.1 ZaW2.out).1
          have eb0W2 : W2.cell? ⟨W1.heap.size + z1.bs.size + 1, 0, none⟩ = some (.int .i64 y.wlo) := cell_of_block ZbW2.out 0 (by simp)
          have eb1W2 : W2.cell? ⟨W1.heap.size + z1.bs.size + 1, 1, none⟩ = some (.int .i64 y.whi) := cell_of_block ZbW2.out 1 (by simp)
          have lbW2 := (Array.getElem?_eq_some_iff.1 ZbW2.out).1
          go_wp2_with fail
          go_ret
          exact ⟨rfl, HBW2.out⟩
        · have nc4 := Int.not_le.1 c4
          by_cases p2 : y.alo * x.wlo ≤ y.whi * x.ahi
          · by_cases p4 : y.wlo * x.alo ≤ y.ahi * x.whi
            · have EV : E = 1 := by
                rw [← HE.out]
                rw [if_neg (by rw [MB'.out]; omega)]
                rw [if_neg (by omega)]
                exact if_neg (by omega)
              subst EV
              go_enter Try.func56, Try.ntmps56
              go_wp2_with fail
              rw [HWc.out]
              go_wp2_with fail
              refine (Calls.grown (MT'.out _)).mono ?_
              rintro e w1 ⟨rfl, z1, rfl⟩
              go_upto_region 2 with (fail)
              obtain ⟨W2, hW2⟩ : ∃ W2, (((gw W1 z1)).alloc (.cells #[.int .i64 y.alo, .int .i64 y.ahi] 26)).alloc (.cells #[.int .i64 y.wlo, .int .i64 y.whi] 26) = W2 := ⟨_, rfl⟩
              have hbW2 : Below W1.heap.size W1 W2 := by rw [← hW2]; exact ((below_gw W1 z1).alloc (by simp [gw_size]) _).alloc (by simp [gw_size] <;> omega) _
              have ZxW2 := Lib.hid ((hbW2.block _ (Array.getElem?_eq_some_iff.1 Zc0.out).1).trans Zc0.out)
              have zaW2 : W2.heap[W1.heap.size + z1.bs.size]? = some (.cells #[.int .i64 y.alo, .int .i64 y.ahi] 26 (0, 0)) := by rw [← hW2]; exact alloc_keep (alloc_at (by simp [gw_size]))
              have ZaW2 := Lib.hid zaW2; clear zaW2
              have zbW2 : W2.heap[W1.heap.size + z1.bs.size + 1]? = some (.cells #[.int .i64 y.wlo, .int .i64 y.whi] 26 (0, 0)) := by rw [← hW2]; exact alloc_at (by simp [gw_size] <;> omega)
              have ZbW2 := Lib.hid zbW2; clear zbW2
              have HBW2 := Lib.hid (thru hbW2 HBc.out)
              have SBW2 := Lib.hid hbW2; clear hbW2
              have HWW2 := Lib.hid hW2; clear hW2
              rw [HWW2.out]
              clear c00 c01 c02 c03 c04 c10 c11 c12 c13 c14
              have ex0W2 : W2.cell? ⟨w.heap.size, 0, none⟩ = some (.int .i64 x.day) := cell_of_block ZxW2.out 0 (by simp)
              have ex1W2 : W2.cell? ⟨w.heap.size, 1, none⟩ = some (.int .i64 x.alo) := cell_of_block ZxW2.out 1 (by simp)
              have ex2W2 : W2.cell? ⟨w.heap.size, 2, none⟩ = some (.int .i64 x.ahi) := cell_of_block ZxW2.out 2 (by simp)
              have ex3W2 : W2.cell? ⟨w.heap.size, 3, none⟩ = some (.int .i64 x.wlo) := cell_of_block ZxW2.out 3 (by simp)
              have ex4W2 : W2.cell? ⟨w.heap.size, 4, none⟩ = some (.int .i64 x.whi) := cell_of_block ZxW2.out 4 (by simp)
              have lxW2 := (Array.getElem?_eq_some_iff.1 ZxW2.out).1
              have ea0W2 : W2.cell? ⟨W1.heap.size + z1.bs.size, 0, none⟩ = some (.int .i64 y.alo) := cell_of_block ZaW2.out 0 (by simp)
              have ea1W2 : W2.cell? ⟨W1.heap.size + z1.bs.size, 1, none⟩ = some (.int .i64 y.ahi) := cell_of_block ZaW2.out 1 (by simp)
              have laW2 := (Array.getElem?_eq_some_iff.1 ZaW2.out).1
              have eb0W2 : W2.cell? ⟨W1.heap.size + z1.bs.size + 1, 0, none⟩ = some (.int .i64 y.wlo) := cell_of_block ZbW2.out 0 (by simp)
              have eb1W2 : W2.cell? ⟨W1.heap.size + z1.bs.size + 1, 1, none⟩ = some (.int .i64 y.whi) := cell_of_block ZbW2.out 1 (by simp)
              have lbW2 := (Array.getElem?_eq_some_iff.1 ZbW2.out).1
              go_wp2_with fail
              go_ret
              exact ⟨rfl, HBW2.out⟩
            · have np4 := Int.not_le.1 p4
              have EV : E = 2 := by
                rw [← HE.out]
                rw [if_neg (by rw [MB'.out]; omega)]
                rw [if_neg (by omega)]
                exact if_pos (by omega)
              subst EV
              go_enter Try.func56, Try.ntmps56
              go_wp2_with fail
              rw [HWc.out]
              go_wp2_with fail
              refine (Calls.grown (MT'.out _)).mono ?_
              rintro e w1 ⟨rfl, z1, rfl⟩
              go_upto_region 2 with (fail)
              obtain ⟨W2, hW2⟩ : ∃ W2, (((gw W1 z1)).alloc (.cells #[.int .i64 y.alo, .int .i64 y.ahi] 26)).alloc (.cells #[.int .i64 y.wlo, .int .i64 y.whi] 26) = W2 := ⟨_, rfl⟩
              have hbW2 : Below W1.heap.size W1 W2 := by rw [← hW2]; exact ((below_gw W1 z1).alloc (by simp [gw_size]) _).alloc (by simp [gw_size] <;> omega) _
              have ZxW2 := Lib.hid ((hbW2.block _ (Array.getElem?_eq_some_iff.1 Zc0.out).1).trans Zc0.out)
              have zaW2 : W2.heap[W1.heap.size + z1.bs.size]? = some (.cells #[.int .i64 y.alo, .int .i64 y.ahi] 26 (0, 0)) := by rw [← hW2]; exact alloc_keep (alloc_at (by simp [gw_size]))
              have ZaW2 := Lib.hid zaW2; clear zaW2
              have zbW2 : W2.heap[W1.heap.size + z1.bs.size + 1]? = some (.cells #[.int .i64 y.wlo, .int .i64 y.whi] 26 (0, 0)) := by rw [← hW2]; exact alloc_at (by simp [gw_size] <;> omega)
              have ZbW2 := Lib.hid zbW2; clear zbW2
              have HBW2 := Lib.hid (thru hbW2 HBc.out)
              have SBW2 := Lib.hid hbW2; clear hbW2
              have HWW2 := Lib.hid hW2; clear hW2
              rw [HWW2.out]
              clear c00 c01 c02 c03 c04 c10 c11 c12 c13 c14
              have ex0W2 : W2.cell? ⟨w.heap.size, 0, none⟩ = some (.int .i64 x.day) := cell_of_block ZxW2.out 0 (by simp)
              have ex1W2 : W2.cell? ⟨w.heap.size, 1, none⟩ = some (.int .i64 x.alo) := cell_of_block ZxW2.out 1 (by simp)
              have ex2W2 : W2.cell? ⟨w.heap.size, 2, none⟩ = some (.int .i64 x.ahi) := cell_of_block ZxW2.out 2 (by simp)
              have ex3W2 : W2.cell? ⟨w.heap.size, 3, none⟩ = some (.int .i64 x.wlo) := cell_of_block ZxW2.out 3 (by simp)
              have ex4W2 : W2.cell? ⟨w.heap.size, 4, none⟩ = some (.int .i64 x.whi) := cell_of_block ZxW2.out 4 (by simp)
              have lxW2 := (Array.getElem?_eq_some_iff.1 ZxW2.out).1
              have ea0W2 : W2.cell? ⟨W1.heap.size + z1.bs.size, 0, none⟩ = some (.int .i64 y.alo) := cell_of_block ZaW2.out 0 (by simp)
              have ea1W2 : W2.cell? ⟨W1.heap.size + z1.bs.size, 1, none⟩ = some (.int .i64 y.ahi) := cell_of_block ZaW2.out 1 (by simp)
              have laW2 := (Array.getElem?_eq_some_iff.1 ZaW2.out).1
              have eb0W2 : W2.cell? ⟨W1.heap.size + z1.bs.size + 1, 0, none⟩ = some (.int .i64 y.wlo) := cell_of_block ZbW2.out 0 (by simp)
              have eb1W2 : W2.cell? ⟨W1.heap.size + z1.bs.size + 1, 1, none⟩ = some (.int .i64 y.whi) := cell_of_block ZbW2.out 1 (by simp)
              have lbW2 := (Array.getElem?_eq_some_iff.1 ZbW2.out).1
              go_wp2_with fail
              go_ret
              exact ⟨rfl, HBW2.out⟩
          · have np2 := Int.not_le.1 p2
            have EV : E = 3 := by
              rw [← HE.out]
              rw [if_neg (by rw [MB'.out]; omega)]
              exact if_pos (by omega)
            subst EV
            go_enter Try.func56, Try.ntmps56
            go_wp2_with fail
            rw [HWc.out]
            go_wp2_with fail
            refine (Calls.grown (MT'.out _)).mono ?_
            rintro e w1 ⟨rfl, z1, rfl⟩
            go_upto_region 2 with (fail)
            obtain ⟨W2, hW2⟩ : ∃ W2, (((gw W1 z1)).alloc (.cells #[.int .i64 y.alo, .int .i64 y.ahi] 26)).alloc (.cells #[.int .i64 y.wlo, .int .i64 y.whi] 26) = W2 := ⟨_, rfl⟩
            have hbW2 : Below W1.heap.size W1 W2 := by rw [← hW2]; exact ((below_gw W1 z1).alloc (by simp [gw_size]) _).alloc (by simp [gw_size] <;> omega) _
            have ZxW2 := Lib.hid ((hbW2.block _ (Array.getElem?_eq_some_iff.1 Zc0.out).1).trans Zc0.out)
            have zaW2 : W2.heap[W1.heap.size + z1.bs.size]? = some (.cells #[.int .i64 y.alo, .int .i64 y.ahi] 26 (0, 0)) := by rw [← hW2]; exact alloc_keep (alloc_at (by simp [gw_size]))
            have ZaW2 := Lib.hid zaW2; clear zaW2
            have zbW2 : W2.heap[W1.heap.size + z1.bs.size + 1]? = some (.cells #[.int .i64 y.wlo, .int .i64 y.whi] 26 (0, 0)) := by rw [← hW2]; exact alloc_at (by simp [gw_size] <;> omega)
            have ZbW2 := Lib.hid zbW2; clear zbW2
            have HBW2 := Lib.hid (thru hbW2 HBc.out)
            have SBW2 := Lib.hid hbW2; clear hbW2
            have HWW2 := Lib.hid hW2; clear hW2
            rw [HWW2.out]
            clear c00 c01 c02 c03 c04 c10 c11 c12 c13 c14
            have ex0W2 : W2.cell? ⟨w.heap.size, 0, none⟩ = some (.int .i64 x.day) := cell_of_block ZxW2.out 0 (by simp)
            have ex1W2 : W2.cell? ⟨w.heap.size, 1, none⟩ = some (.int .i64 x.alo) := cell_of_block ZxW2.out 1 (by simp)
            have ex2W2 : W2.cell? ⟨w.heap.size, 2, none⟩ = some (.int .i64 x.ahi) := cell_of_block ZxW2.out 2 (by simp)
            have ex3W2 : W2.cell? ⟨w.heap.size, 3, none⟩ = some (.int .i64 x.wlo) := cell_of_block ZxW2.out 3 (by simp)
            have ex4W2 : W2.cell? ⟨w.heap.size, 4, none⟩ = some (.int .i64 x.whi) := cell_of_block ZxW2.out 4 (by simp)
            have lxW2 := (Array.getElem?_eq_some_iff.1 ZxW2.out).1
            have ea0W2 : W2.cell? ⟨W1.heap.size + z1.bs.size, 0, none⟩ = some (.int .i64 y.alo) := cell_of_block ZaW2.out 0 (by simp)
            have ea1W2 : W2.cell? ⟨W1.heap.size + z1.bs.size, 1, none⟩ = some (.int .i64 y.ahi) := cell_of_block ZaW2.out 1 (by simp)
            have laW2 := (Array.getElem?_eq_some_iff.1 ZaW2.out).1
            have eb0W2 : W2.cell? ⟨W1.heap.size + z1.bs.size + 1, 0, none⟩ = some (.int .i64 y.wlo) := cell_of_block ZbW2.out 0 (by simp)
            have eb1W2 : W2.cell? ⟨W1.heap.size + z1.bs.size + 1, 1, none⟩ = some (.int .i64 y.whi) := cell_of_block ZbW2.out 1 (by simp)
            have lbW2 := (Array.getElem?_eq_some_iff.1 ZbW2.out).1
            go_wp2_with fail
            go_ret
            exact ⟨rfl, HBW2.out⟩
      · have nc3 := Int.not_le.1 c3
        by_cases p2 : y.alo * x.wlo ≤ y.whi * x.ahi
        · have EV : E = 2 := by
            rw [← HE.out]
            rw [if_neg (by rw [MB'.out]; omega)]
            rw [if_neg (by omega)]
            exact if_pos (by omega)
          subst EV
          go_enter Try.func56, Try.ntmps56
          go_wp2_with fail
          rw [HWc.out]
          go_wp2_with fail
          refine (Calls.grown (MT'.out _)).mono ?_
          rintro e w1 ⟨rfl, z1, rfl⟩
          go_upto_region 2 with (fail)
          obtain ⟨W2, hW2⟩ : ∃ W2, (((gw W1 z1)).alloc (.cells #[.int .i64 y.alo, .int .i64 y.ahi] 26)).alloc (.cells #[.int .i64 y.wlo, .int .i64 y.whi] 26) = W2 := ⟨_, rfl⟩
          have hbW2 : Below W1.heap.size W1 W2 := by rw [← hW2]; exact ((below_gw W1 z1).alloc (by simp [gw_size]) _).alloc (by simp [gw_size] <;> omega) _
          have ZxW2 := Lib.hid ((hbW2.block _ (Array.getElem?_eq_some_iff.1 Zc0.out).1).trans Zc0.out)
          have zaW2 : W2.heap[W1.heap.size + z1.bs.size]? = some (.cells #[.int .i64 y.alo, .int .i64 y.ahi] 26 (0, 0)) := by rw [← hW2]; exact alloc_keep (alloc_at (by simp [gw_size]))
          have ZaW2 := Lib.hid zaW2; clear zaW2
          have zbW2 : W2.heap[W1.heap.size + z1.bs.size + 1]? = some (.cells #[.int .i64 y.wlo, .int .i64 y.whi] 26 (0, 0)) := by rw [← hW2]; exact alloc_at (by simp [gw_size] <;> omega)
          have ZbW2 := Lib.hid zbW2; clear zbW2
          have HBW2 := Lib.hid (thru hbW2 HBc.out)
          have SBW2 := Lib.hid hbW2; clear hbW2
          have HWW2 := Lib.hid hW2; clear hW2
          rw [HWW2.out]
          clear c00 c01 c02 c03 c04 c10 c11 c12 c13 c14
          have ex0W2 : W2.cell? ⟨w.heap.size, 0, none⟩ = some (.int .i64 x.day) := cell_of_block ZxW2.out 0 (by simp)
          have ex1W2 : W2.cell? ⟨w.heap.size, 1, none⟩ = some (.int .i64 x.alo) := cell_of_block ZxW2.out 1 (by simp)
          have ex2W2 : W2.cell? ⟨w.heap.size, 2, none⟩ = some (.int .i64 x.ahi) := cell_of_block ZxW2.out 2 (by simp)
          have ex3W2 : W2.cell? ⟨w.heap.size, 3, none⟩ = some (.int .i64 x.wlo) := cell_of_block ZxW2.out 3 (by simp)
          have ex4W2 : W2.cell? ⟨w.heap.size, 4, none⟩ = some (.int .i64 x.whi) := cell_of_block ZxW2.out 4 (by simp)
          have lxW2 := (Array.getElem?_eq_some_iff.1 ZxW2.out).1
          have ea0W2 : W2.cell? ⟨W1.heap.size + z1.bs.size, 0, none⟩ = some (.int .i64 y.alo) := cell_of_block ZaW2.out 0 (by simp)
          have ea1W2 : W2.cell? ⟨W1.heap.size + z1.bs.size, 1, none⟩ = some (.int .i64 y.ahi) := cell_of_block ZaW2.out 1 (by simp)
          have laW2 := (Array.getElem?_eq_some_iff.1 ZaW2.out).1
          have eb0W2 : W2.cell? ⟨W1.heap.size + z1.bs.size + 1, 0, none⟩ = some (.int .i64 y.wlo) := cell_of_block ZbW2.out 0 (by simp)
          have eb1W2 : W2.cell? ⟨W1.heap.size + z1.bs.size + 1, 1, none⟩ = some (.int .i64 y.whi) := cell_of_block ZbW2.out 1 (by simp)
          have lbW2 := (Array.getElem?_eq_some_iff.1 ZbW2.out).1
          go_wp2_with fail
          go_ret
          exact ⟨rfl, HBW2.out⟩
        · have np2 := Int.not_le.1 p2
          have EV : E = 3 := by
            rw [← HE.out]
            rw [if_neg (by rw [MB'.out]; omega)]
            exact if_pos (by omega)
          subst EV
          go_enter Try.func56, Try.ntmps56
          go_wp2_with fail
          rw [HWc.out]
          go_wp2_with fail
          refine (Calls.grown (MT'.out _)).mono ?_
          rintro e w1 ⟨rfl, z1, rfl⟩
          go_upto_region 2 with (fail)
          obtain ⟨W2, hW2⟩ : ∃ W2, (((gw W1 z1)).alloc (.cells #[.int .i64 y.alo, .int .i64 y.ahi] 26)).alloc (.cells #[.int .i64 y.wlo, .int .i64 y.whi] 26) = W2 := ⟨_, rfl⟩
          have hbW2 : Below W1.heap.size W1 W2 := by rw [← hW2]; exact ((below_gw W1 z1).alloc (by simp [gw_size]) _).alloc (by simp [gw_size] <;> omega) _
          have ZxW2 := Lib.hid ((hbW2.block _ (Array.getElem?_eq_some_iff.1 Zc0.out).1).trans Zc0.out)
          have zaW2 : W2.heap[W1.heap.size + z1.bs.size]? = some (.cells #[.int .i64 y.alo, .int .i64 y.ahi] 26 (0, 0)) := by rw [← hW2]; exact alloc_keep (alloc_at (by simp [gw_size]))
          have ZaW2 := Lib.hid zaW2; clear zaW2
          have zbW2 : W2.heap[W1.heap.size + z1.bs.size + 1]? = some (.cells #[.int .i64 y.wlo, .int .i64 y.whi] 26 (0, 0)) := by rw [← hW2]; exact alloc_at (by simp [gw_size] <;> omega)
          have ZbW2 := Lib.hid zbW2; clear zbW2
          have HBW2 := Lib.hid (thru hbW2 HBc.out)
          have SBW2 := Lib.hid hbW2; clear hbW2
          have HWW2 := Lib.hid hW2; clear hW2
          rw [HWW2.out]
          clear c00 c01 c02 c03 c04 c10 c11 c12 c13 c14
          have ex0W2 : W2.cell? ⟨w.heap.size, 0, none⟩ = some (.int .i64 x.day) := cell_of_block ZxW2.out 0 (by simp)
          have ex1W2 : W2.cell? ⟨w.heap.size, 1, none⟩ = some (.int .i64 x.alo) := cell_of_block ZxW2.out 1 (by simp)
          have ex2W2 : W2.cell? ⟨w.heap.size, 2, none⟩ = some (.int .i64 x.ahi) := cell_of_block ZxW2.out 2 (by simp)
          have ex3W2 : W2.cell? ⟨w.heap.size, 3, none⟩ = some (.int .i64 x.wlo) := cell_of_block ZxW2.out 3 (by simp)
          have ex4W2 : W2.cell? ⟨w.heap.size, 4, none⟩ = some (.int .i64 x.whi) := cell_of_block ZxW2.out 4 (by simp)
          have lxW2 := (Array.getElem?_eq_some_iff.1 ZxW2.out).1
          have ea0W2 : W2.cell? ⟨W1.heap.size + z1.bs.size, 0, none⟩ = some (.int .i64 y.alo) := cell_of_block ZaW2.out 0 (by simp)
          have ea1W2 : W2.cell? ⟨W1.heap.size + z1.bs.size, 1, none⟩ = some (.int .i64 y.ahi) := cell_of_block ZaW2.out 1 (by simp)
          have laW2 := (Array.getElem?_eq_some_iff.1 ZaW2.out).1
          have eb0W2 : W2.cell? ⟨W1.heap.size + z1.bs.size + 1, 0, none⟩ = some (.int .i64 y.wlo) := cell_of_block ZbW2.out 0 (by simp)
          have eb1W2 : W2.cell? ⟨W1.heap.size + z1.bs.size + 1, 1, none⟩ = some (.int .i64 y.whi) := cell_of_block ZbW2.out 1 (by simp)
          have lbW2 := (Array.getElem?_eq_some_iff.1 ZbW2.out).1
          go_wp2_with fail
          go_ret
          exact ⟨rfl, HBW2.out⟩
    · have nc2 := Int.not_le.1 c2
      by_cases p2 : y.alo * x.wlo ≤ y.whi * x.ahi
      · by_cases c3 : y.wlo ≤ x.whi
        · by_cases p4 : y.wlo * x.alo ≤ y.ahi * x.whi
          · have EV : E = 1 := by
              rw [← HE.out]
              rw [if_neg (by rw [MB'.out]; omega)]
              rw [if_neg (by omega)]
              exact if_neg (by omega)
            subst EV
            go_enter Try.func56, Try.ntmps56
            go_wp2_with fail
            rw [HWc.out]
            go_wp2_with fail
            refine (Calls.grown (MT'.out _)).mono ?_
            rintro e w1 ⟨rfl, z1, rfl⟩
            go_upto_region 2 with (fail)
            obtain ⟨W2, hW2⟩ : ∃ W2, (((gw W1 z1)).alloc (.cells #[.int .i64 y.alo, .int .i64 y.ahi] 26)).alloc (.cells #[.int .i64 y.wlo, .int .i64 y.whi] 26) = W2 := ⟨_, rfl⟩
            have hbW2 : Below W1.heap.size W1 W2 := by rw [← hW2]; exact ((below_gw W1 z1).alloc (by simp [gw_size]) _).alloc (by simp [gw_size] <;> omega) _
            have ZxW2 := Lib.hid ((hbW2.block _ (Array.getElem?_eq_some_iff.1 Zc0.out).1).trans Zc0.out)
            have zaW2 : W2.heap[W1.heap.size + z1.bs.size]? = some (.cells #[.int .i64 y.alo, .int .i64 y.ahi] 26 (0, 0)) := by rw [← hW2]; exact alloc_keep (alloc_at (by simp [gw_size]))
            have ZaW2 := Lib.hid zaW2; clear zaW2
            have zbW2 : W2.heap[W1.heap.size + z1.bs.size + 1]? = some (.cells #[.int .i64 y.wlo, .int .i64 y.whi] 26 (0, 0)) := by rw [← hW2]; exact alloc_at (by simp [gw_size] <;> omega)
            have ZbW2 := Lib.hid zbW2; clear zbW2
            have HBW2 := Lib.hid (thru hbW2 HBc.out)
            have SBW2 := Lib.hid hbW2; clear hbW2
            have HWW2 := Lib.hid hW2; clear hW2
            rw [HWW2.out]
            clear c00 c01 c02 c03 c04 c10 c11 c12 c13 c14
            have ex0W2 : W2.cell? ⟨w.heap.size, 0, none⟩ = some (.int .i64 x.day) := cell_of_block ZxW2.out 0 (by simp)
            have ex1W2 : W2.cell? ⟨w.heap.size, 1, none⟩ = some (.int .i64 x.alo) := cell_of_block ZxW2.out 1 (by simp)
            have ex2W2 : W2.cell? ⟨w.heap.size, 2, none⟩ = some (.int .i64 x.ahi) := cell_of_block ZxW2.out 2 (by simp)
            have ex3W2 : W2.cell? ⟨w.heap.size, 3, none⟩ = some (.int .i64 x.wlo) := cell_of_block ZxW2.out 3 (by simp)
            have ex4W2 : W2.cell? ⟨w.heap.size, 4, none⟩ = some (.int .i64 x.whi) := cell_of_block ZxW2.out 4 (by simp)
            have lxW2 := (Array.getElem?_eq_some_iff.1 ZxW2.out).1
            have ea0W2 : W2.cell? ⟨W1.heap.size + z1.bs.size, 0, none⟩ = some (.int .i64 y.alo) := cell_of_block ZaW2.out 0 (by simp)
            have ea1W2 : W2.cell? ⟨W1.heap.size + z1.bs.size, 1, none⟩ = some (.int .i64 y.ahi) := cell_of_block ZaW2.out 1 (by simp)
            have laW2 := (Array.getElem?_eq_some_iff.1 ZaW2.out).1
            have eb0W2 : W2.cell? ⟨W1.heap.size + z1.bs.size + 1, 0, none⟩ = some (.int .i64 y.wlo) := cell_of_block ZbW2.out 0 (by simp)
            have eb1W2 : W2.cell? ⟨W1.heap.size + z1.bs.size + 1, 1, none⟩ = some (.int .i64 y.whi) := cell_of_block ZbW2.out 1 (by simp)
            have lbW2 := (Array.getElem?_eq_some_iff.1 ZbW2.out).1
            go_wp2_with fail
            go_ret
            exact ⟨rfl, HBW2.out⟩
          · have np4 := Int.not_le.1 p4
            have EV : E = 2 := by
              rw [← HE.out]
              rw [if_neg (by rw [MB'.out]; omega)]
              rw [if_neg (by omega)]
              exact if_pos (by omega)
            subst EV
            go_enter Try.func56, Try.ntmps56
            go_wp2_with fail
            rw [HWc.out]
            go_wp2_with fail
            refine (Calls.grown (MT'.out _)).mono ?_
            rintro e w1 ⟨rfl, z1, rfl⟩
            go_upto_region 2 with (fail)
            obtain ⟨W2, hW2⟩ : ∃ W2, (((gw W1 z1)).alloc (.cells #[.int .i64 y.alo, .int .i64 y.ahi] 26)).alloc (.cells #[.int .i64 y.wlo, .int .i64 y.whi] 26) = W2 := ⟨_, rfl⟩
            have hbW2 : Below W1.heap.size W1 W2 := by rw [← hW2]; exact ((below_gw W1 z1).alloc (by simp [gw_size]) _).alloc (by simp [gw_size] <;> omega) _
            have ZxW2 := Lib.hid ((hbW2.block _ (Array.getElem?_eq_some_iff.1 Zc0.out).1).trans Zc0.out)
            have zaW2 : W2.heap[W1.heap.size + z1.bs.size]? = some (.cells #[.int .i64 y.alo, .int .i64 y.ahi] 26 (0, 0)) := by rw [← hW2]; exact alloc_keep (alloc_at (by simp [gw_size]))
            have ZaW2 := Lib.hid zaW2; clear zaW2
            have zbW2 : W2.heap[W1.heap.size + z1.bs.size + 1]? = some (.cells #[.int .i64 y.wlo, .int .i64 y.whi] 26 (0, 0)) := by rw [← hW2]; exact alloc_at (by simp [gw_size] <;> omega)
            have ZbW2 := Lib.hid zbW2; clear zbW2
            have HBW2 := Lib.hid (thru hbW2 HBc.out)
            have SBW2 := Lib.hid hbW2; clear hbW2
            have HWW2 := Lib.hid hW2; clear hW2
            rw [HWW2.out]
            clear c00 c01 c02 c03 c04 c10 c11 c12 c13 c14
            have ex0W2 : W2.cell? ⟨w.heap.size, 0, none⟩ = some (.int .i64 x.day) := cell_of_block ZxW2.out 0 (by simp)
            have ex1W2 : W2.cell? ⟨w.heap.size, 1, none⟩ = some (.int .i64 x.alo) := cell_of_block ZxW2.out 1 (by simp)
            have ex2W2 : W2.cell? ⟨w.heap.size, 2, none⟩ = some (.int .i64 x.ahi) := cell_of_block ZxW2.out 2 (by simp)
            have ex3W2 : W2.cell? ⟨w.heap.size, 3, none⟩ = some (.int .i64 x.wlo) := cell_of_block ZxW2.out 3 (by simp)
            have ex4W2 : W2.cell? ⟨w.heap.size, 4, none⟩ = some (.int .i64 x.whi) := cell_of_block ZxW2.out 4 (by simp)
            have lxW2 := (Array.getElem?_eq_some_iff.1 ZxW2.out).1
            have ea0W2 : W2.cell? ⟨W1.heap.size + z1.bs.size, 0, none⟩ = some (.int .i64 y.alo) := cell_of_block ZaW2.out 0 (by simp)
            have ea1W2 : W2.cell? ⟨W1.heap.size + z1.bs.size, 1, none⟩ = some (.int .i64 y.ahi) := cell_of_block ZaW2.out 1 (by simp)
            have laW2 := (Array.getElem?_eq_some_iff.1 ZaW2.out).1
            have eb0W2 : W2.cell? ⟨W1.heap.size + z1.bs.size + 1, 0, none⟩ = some (.int .i64 y.wlo) := cell_of_block ZbW2.out 0 (by simp)
            have eb1W2 : W2.cell? ⟨W1.heap.size + z1.bs.size + 1, 1, none⟩ = some (.int .i64 y.whi) := cell_of_block ZbW2.out 1 (by simp)
            have lbW2 := (Array.getElem?_eq_some_iff.1 ZbW2.out).1
            go_wp2_with fail
            go_ret
            exact ⟨rfl, HBW2.out⟩
        · have nc3 := Int.not_le.1 c3
          have EV : E = 2 := by
            rw [← HE.out]
            rw [if_neg (by rw [MB'.out]; omega)]
            rw [if_neg (by omega)]
            exact if_pos (by omega)
          subst EV
          go_enter Try.func56, Try.ntmps56
          go_wp2_with fail
          rw [HWc.out]
          go_wp2_with fail
          refine (Calls.grown (MT'.out _)).mono ?_
          rintro e w1 ⟨rfl, z1, rfl⟩
          go_upto_region 2 with (fail)
          obtain ⟨W2, hW2⟩ : ∃ W2, (((gw W1 z1)).alloc (.cells #[.int .i64 y.alo, .int .i64 y.ahi] 26)).alloc (.cells #[.int .i64 y.wlo, .int .i64 y.whi] 26) = W2 := ⟨_, rfl⟩
          have hbW2 : Below W1.heap.size W1 W2 := by rw [← hW2]; exact ((below_gw W1 z1).alloc (by simp [gw_size]) _).alloc (by simp [gw_size] <;> omega) _
          have ZxW2 := Lib.hid ((hbW2.block _ (Array.getElem?_eq_some_iff.1 Zc0.out).1).trans Zc0.out)
          have zaW2 : W2.heap[W1.heap.size + z1.bs.size]? = some (.cells #[.int .i64 y.alo, .int .i64 y.ahi] 26 (0, 0)) := by rw [← hW2]; exact alloc_keep (alloc_at (by simp [gw_size]))
          have ZaW2 := Lib.hid zaW2; clear zaW2
          have zbW2 : W2.heap[W1.heap.size + z1.bs.size + 1]? = some (.cells #[.int .i64 y.wlo, .int .i64 y.whi] 26 (0, 0)) := by rw [← hW2]; exact alloc_at (by simp [gw_size] <;> omega)
          have ZbW2 := Lib.hid zbW2; clear zbW2
          have HBW2 := Lib.hid (thru hbW2 HBc.out)
          have SBW2 := Lib.hid hbW2; clear hbW2
          have HWW2 := Lib.hid hW2; clear hW2
          rw [HWW2.out]
          clear c00 c01 c02 c03 c04 c10 c11 c12 c13 c14
          have ex0W2 : W2.cell? ⟨w.heap.size, 0, none⟩ = some (.int .i64 x.day) := cell_of_block ZxW2.out 0 (by simp)
          have ex1W2 : W2.cell? ⟨w.heap.size, 1, none⟩ = some (.int .i64 x.alo) := cell_of_block ZxW2.out 1 (by simp)
          have ex2W2 : W2.cell? ⟨w.heap.size, 2, none⟩ = some (.int .i64 x.ahi) := cell_of_block ZxW2.out 2 (by simp)
          have ex3W2 : W2.cell? ⟨w.heap.size, 3, none⟩ = some (.int .i64 x.wlo) := cell_of_block ZxW2.out 3 (by simp)
          have ex4W2 : W2.cell? ⟨w.heap.size, 4, none⟩ = some (.int .i64 x.whi) := cell_of_block ZxW2.out 4 (by simp)
          have lxW2 := (Array.getElem?_eq_some_iff.1 ZxW2.out).1
          have ea0W2 : W2.cell? ⟨W1.heap.size + z1.bs.size, 0, none⟩ = some (.int .i64 y.alo) := cell_of_block ZaW2.out 0 (by simp)
          have ea1W2 : W2.cell? ⟨W1.heap.size + z1.bs.size, 1, none⟩ = some (.int .i64 y.ahi) := cell_of_block ZaW2.out 1 (by simp)
          have laW2 := (Array.getElem?_eq_some_iff.1 ZaW2.out).1
          have eb0W2 : W2.cell? ⟨W1.heap.size + z1.bs.size + 1, 0, none⟩ = some (.int .i64 y.wlo) := cell_of_block ZbW2.out 0 (by simp)
          have eb1W2 : W2.cell? ⟨W1.heap.size + z1.bs.size + 1, 1, none⟩ = some (.int .i64 y.whi) := cell_of_block ZbW2.out 1 (by simp)
          have lbW2 := (Array.getElem?_eq_some_iff.1 ZbW2.out).1
          go_wp2_with fail
          go_ret
          exact ⟨rfl, HBW2.out⟩
      · have np2 := Int.not_le.1 p2
        have EV : E = 3 := by
          rw [← HE.out]
          rw [if_neg (by rw [MB'.out]; omega)]
          exact if_pos (by omega)
        subst EV
        go_enter Try.func56, Try.ntmps56
        go_wp2_with fail
        rw [HWc.out]
        go_wp2_with fail
        refine (Calls.grown (MT'.out _)).mono ?_
        rintro e w1 ⟨rfl, z1, rfl⟩
        go_upto_region 2 with (fail)
        obtain ⟨W2, hW2⟩ : ∃ W2, (((gw W1 z1)).alloc (.cells #[.int .i64 y.alo, .int .i64 y.ahi] 26)).alloc (.cells #[.int .i64 y.wlo, .int .i64 y.whi] 26) = W2 := ⟨_, rfl⟩
        have hbW2 : Below W1.heap.size W1 W2 := by rw [← hW2]; exact ((below_gw W1 z1).alloc (by simp [gw_size]) _).alloc (by simp [gw_size] <;> omega) _
        have ZxW2 := Lib.hid ((hbW2.block _ (Array.getElem?_eq_some_iff.1 Zc0.out).1).trans Zc0.out)
        have zaW2 : W2.heap[W1.heap.size + z1.bs.size]? = some (.cells #[.int .i64 y.alo, .int .i64 y.ahi] 26 (0, 0)) := by rw [← hW2]; exact alloc_keep (alloc_at (by simp [gw_size]))
        have ZaW2 := Lib.hid zaW2; clear zaW2
        have zbW2 : W2.heap[W1.heap.size + z1.bs.size + 1]? = some (.cells #[.int .i64 y.wlo, .int .i64 y.whi] 26 (0, 0)) := by rw [← hW2]; exact alloc_at (by simp [gw_size] <;> omega)
        have ZbW2 := Lib.hid zbW2; clear zbW2
        have HBW2 := Lib.hid (thru hbW2 HBc.out)
        have SBW2 := Lib.hid hbW2; clear hbW2
        have HWW2 := Lib.hid hW2; clear hW2
        rw [HWW2.out]
        clear c00 c01 c02 c03 c04 c10 c11 c12 c13 c14
        have ex0W2 : W2.cell? ⟨w.heap.size, 0, none⟩ = some (.int .i64 x.day) := cell_of_block ZxW2.out 0 (by simp)
        have ex1W2 : W2.cell? ⟨w.heap.size, 1, none⟩ = some (.int .i64 x.alo) := cell_of_block ZxW2.out 1 (by simp)
        have ex2W2 : W2.cell? ⟨w.heap.size, 2, none⟩ = some (.int .i64 x.ahi) := cell_of_block ZxW2.out 2 (by simp)
        have ex3W2 : W2.cell? ⟨w.heap.size, 3, none⟩ = some (.int .i64 x.wlo) := cell_of_block ZxW2.out 3 (by simp)
        have ex4W2 : W2.cell? ⟨w.heap.size, 4, none⟩ = some (.int .i64 x.whi) := cell_of_block ZxW2.out 4 (by simp)
        have lxW2 := (Array.getElem?_eq_some_iff.1 ZxW2.out).1
        have ea0W2 : W2.cell? ⟨W1.heap.size + z1.bs.size, 0, none⟩ = some (.int .i64 y.alo) := cell_of_block ZaW2.out 0 (by simp)
        have ea1W2 : W2.cell? ⟨W1.heap.size + z1.bs.size, 1, none⟩ = some (.int .i64 y.ahi) := cell_of_block ZaW2.out 1 (by simp)
        have laW2 := (Array.getElem?_eq_some_iff.1 ZaW2.out).1
        have eb0W2 : W2.cell? ⟨W1.heap.size + z1.bs.size + 1, 0, none⟩ = some (.int .i64 y.wlo) := cell_of_block ZbW2.out 0 (by simp)
        have eb1W2 : W2.cell? ⟨W1.heap.size + z1.bs.size + 1, 1, none⟩ = some (.int .i64 y.whi) := cell_of_block ZbW2.out 1 (by simp)
        have lbW2 := (Array.getElem?_eq_some_iff.1 ZbW2.out).1
        go_wp2_with fail
        go_ret
        exact ⟨rfl, HBW2.out⟩
  · have nc1 := Int.not_le.1 c1
    have EV : E = 3 := by
      rw [← HE.out]
      rw [if_neg (by rw [MB'.out]; omega)]
      exact if_pos (by omega)
    subst EV
    go_enter Try.func56, Try.ntmps56
    go_wp2_with fail
    rw [HWc.out]
    go_wp2_with fail
    refine (Calls.grown (MT'.out _)).mono ?_
    rintro e w1 ⟨rfl, z1, rfl⟩
    go_upto_region 2 with (fail)
    obtain ⟨W2, hW2⟩ : ∃ W2, (((gw W1 z1)).alloc (.cells #[.int .i64 y.alo, .int .i64 y.ahi] 26)).alloc (.cells #[.int .i64 y.wlo, .int .i64 y.whi] 26) = W2 := ⟨_, rfl⟩
    have hbW2 : Below W1.heap.size W1 W2 := by rw [← hW2]; exact ((below_gw W1 z1).alloc (by simp [gw_size]) _).alloc (by simp [gw_size] <;> omega) _
    have ZxW2 := Lib.hid ((hbW2.block _ (Array.getElem?_eq_some_iff.1 Zc0.out).1).trans Zc0.out)
    have zaW2 : W2.heap[W1.heap.size + z1.bs.size]? = some (.cells #[.int .i64 y.alo, .int .i64 y.ahi] 26 (0, 0)) := by rw [← hW2]; exact alloc_keep (alloc_at (by simp [gw_size]))
    have ZaW2 := Lib.hid zaW2; clear zaW2
    have zbW2 : W2.heap[W1.heap.size + z1.bs.size + 1]? = some (.cells #[.int .i64 y.wlo, .int .i64 y.whi] 26 (0, 0)) := by rw [← hW2]; exact alloc_at (by simp [gw_size] <;> omega)
    have ZbW2 := Lib.hid zbW2; clear zbW2
    have HBW2 := Lib.hid (thru hbW2 HBc.out)
    have SBW2 := Lib.hid hbW2; clear hbW2
    have HWW2 := Lib.hid hW2; clear hW2
    rw [HWW2.out]
    clear c00 c01 c02 c03 c04 c10 c11 c12 c13 c14
    have ex0W2 : W2.cell? ⟨w.heap.size, 0, none⟩ = some (.int .i64 x.day) := cell_of_block ZxW2.out 0 (by simp)
    have ex1W2 : W2.cell? ⟨w.heap.size, 1, none⟩ = some (.int .i64 x.alo) := cell_of_block ZxW2.out 1 (by simp)
    have ex2W2 : W2.cell? ⟨w.heap.size, 2, none⟩ = some (.int .i64 x.ahi) := cell_of_block ZxW2.out 2 (by simp)
    have ex3W2 : W2.cell? ⟨w.heap.size, 3, none⟩ = some (.int .i64 x.wlo) := cell_of_block ZxW2.out 3 (by simp)
    have ex4W2 : W2.cell? ⟨w.heap.size, 4, none⟩ = some (.int .i64 x.whi) := cell_of_block ZxW2.out 4 (by simp)
    have lxW2 := (Array.getElem?_eq_some_iff.1 ZxW2.out).1
    have ea0W2 : W2.cell? ⟨W1.heap.size + z1.bs.size, 0, none⟩ = some (.int .i64 y.alo) := cell_of_block ZaW2.out 0 (by simp)
    have ea1W2 : W2.cell? ⟨W1.heap.size + z1.bs.size, 1, none⟩ = some (.int .i64 y.ahi) := cell_of_block ZaW2.out 1 (by simp)
    have laW2 := (Array.getElem?_eq_some_iff.1 ZaW2.out).1
    have eb0W2 : W2.cell? ⟨W1.heap.size + z1.bs.size + 1, 0, none⟩ = some (.int .i64 y.wlo) := cell_of_block ZbW2.out 0 (by simp)
    have eb1W2 : W2.cell? ⟨W1.heap.size + z1.bs.size + 1, 1, none⟩ = some (.int .i64 y.whi) := cell_of_block ZbW2.out 1 (by simp)
    have lbW2 := (Array.getElem?_eq_some_iff.1 ZbW2.out).1
    go_wp2_with fail
    go_ret
    exact ⟨rfl, HBW2.out⟩
end Go.Proofs.Ytljofnmgddfljaa
