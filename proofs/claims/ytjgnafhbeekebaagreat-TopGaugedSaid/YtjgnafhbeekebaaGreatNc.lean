/- Contracts of TopGauged where it is short. No conditions beyond each theorem's own. -/
import Derived.Test.YtjgnafhbeekebaaGreatNa
import Derived.Test.YtjgnafhbeekebaaGreatNb
set_option linter.unusedVariables false
set_option linter.unusedSimpArgs false
set_option linter.unusedSectionVars false
set_option linter.constructorNameAsVariable false
namespace Go.Proofs.YtjgnafhbeekebaaGreat
open Go.RowKit

attribute [local go_sem] gw_cell gw_frozen gw_size

set_option maxRecDepth 100000 in
set_option maxHeartbeats 8000000 in
theorem gauge_long (t : L1.Tab) (tlo thi : Int) (C : L7.Clim) (x : L7.Cont) (aS : Option Addr) (k cS : Nat) (F G : Nat → Int) (dy : Int) (aB : Option Addr) (nb cB : Nat) (U : Nat → Int) (w : World) (h : 40 < t.nT ∨ 40 < t.nS ∨ 10 < C.nA ∨ 70 < k ∨ nb = 0) :
    Calls Tryz.prog 3 #[.agg #[.slice t.aT t.nT t.cT, .slice t.aS t.nS t.cS, .slice t.H.a t.H.n t.H.c, .slice t.R.a t.R.n t.R.c], .agg #[.int .i64 tlo, .int .i64 thi], .agg #[.int .i64 C.days, .slice C.aA C.nA C.cA, .slice C.aW C.nW C.cW], .agg #[.int .i64 x.day, .int .i64 x.alo, .int .i64 x.ahi, .int .i64 x.wlo, .int .i64 x.whi], .slice aS k cS, .int .u8 dy, .slice aB nb cB] w fun e w' => e = .returned (.bool true) ∧ Below w.heap.size w w' := by
  obtain ⟨W1, hW1⟩ : ∃ W1, (((w.alloc (.cells #[.slice t.aT t.nT t.cT, .slice t.aS t.nS t.cS, .slice t.H.a t.H.n t.H.c, .slice t.R.a t.R.n t.R.c] 25)).alloc (.cells #[.int .i64 tlo, .int .i64 thi] 27)).alloc (.cells #[.int .i64 C.days, .slice C.aA C.nA C.cA, .slice C.aW C.nW C.cW] 30)).alloc (.cells #[.int .i64 x.day, .int .i64 x.alo, .int .i64 x.ahi, .int .i64 x.wlo, .int .i64 x.whi] 32) = W1 := ⟨_, rfl⟩
  have hBc : Below w.heap.size w W1 := by rw [← hW1]; exact (((below_alloc _ _).alloc (by simp) _).alloc (by simp <;> omega) _).alloc (by simp <;> omega) _
  have zc0 : W1.heap[w.heap.size]? = some (.cells #[.slice t.aT t.nT t.cT, .slice t.aS t.nS t.cS, .slice t.H.a t.H.n t.H.c, .slice t.R.a t.R.n t.R.c] 25 (0, 0)) := by rw [← hW1]; exact alloc_keep (alloc_keep (alloc_keep (alloc_at rfl)))
  have zc1 : W1.heap[w.heap.size + 1]? = some (.cells #[.int .i64 tlo, .int .i64 thi] 27 (0, 0)) := by rw [← hW1]; exact alloc_keep (alloc_keep (alloc_at (by simp)))
  have zc2 : W1.heap[w.heap.size + 1 + 1]? = some (.cells #[.int .i64 C.days, .slice C.aA C.nA C.cA, .slice C.aW C.nW C.cW] 30 (0, 0)) := by rw [← hW1]; exact alloc_keep (alloc_at (by simp <;> omega))
  have zc3 : W1.heap[w.heap.size + 1 + 1 + 1]? = some (.cells #[.int .i64 x.day, .int .i64 x.alo, .int .i64 x.ahi, .int .i64 x.wlo, .int .i64 x.whi] 32 (0, 0)) := by rw [← hW1]; exact alloc_at (by simp <;> omega)
  have c00 : W1.cell? ⟨w.heap.size, 0, none⟩ = some (.slice t.aT t.nT t.cT) := cell_of_block zc0 0 (by simp)
  have c01 : W1.cell? ⟨w.heap.size, 1, none⟩ = some (.slice t.aS t.nS t.cS) := cell_of_block zc0 1 (by simp)
  have c02 : W1.cell? ⟨w.heap.size, 2, none⟩ = some (.slice t.H.a t.H.n t.H.c) := cell_of_block zc0 2 (by simp)
  have c03 : W1.cell? ⟨w.heap.size, 3, none⟩ = some (.slice t.R.a t.R.n t.R.c) := cell_of_block zc0 3 (by simp)
  have c10 : W1.cell? ⟨w.heap.size + 1, 0, none⟩ = some (.int .i64 tlo) := cell_of_block zc1 0 (by simp)
  have c11 : W1.cell? ⟨w.heap.size + 1, 1, none⟩ = some (.int .i64 thi) := cell_of_block zc1 1 (by simp)
  have c20 : W1.cell? ⟨w.heap.size + 1 + 1, 0, none⟩ = some (.int .i64 C.days) := cell_of_block zc2 0 (by simp)
  have c21 : W1.cell? ⟨w.heap.size + 1 + 1, 1, none⟩ = some (.slice C.aA C.nA C.cA) := cell_of_block zc2 1 (by simp)
  have c22 : W1.cell? ⟨w.heap.size + 1 + 1, 2, none⟩ = some (.slice C.aW C.nW C.cW) := cell_of_block zc2 2 (by simp)
  have c30 : W1.cell? ⟨w.heap.size + 1 + 1 + 1, 0, none⟩ = some (.int .i64 x.day) := cell_of_block zc3 0 (by simp)
  have c31 : W1.cell? ⟨w.heap.size + 1 + 1 + 1, 1, none⟩ = some (.int .i64 x.alo) := cell_of_block zc3 1 (by simp)
  have c32 : W1.cell? ⟨w.heap.size + 1 + 1 + 1, 2, none⟩ = some (.int .i64 x.ahi) := cell_of_block zc3 2 (by simp)
  have c33 : W1.cell? ⟨w.heap.size + 1 + 1 + 1, 3, none⟩ = some (.int .i64 x.wlo) := cell_of_block zc3 3 (by simp)
  have c34 : W1.cell? ⟨w.heap.size + 1 + 1 + 1, 4, none⟩ = some (.int .i64 x.whi) := cell_of_block zc3 4 (by simp)
  have lc0 := (Array.getElem?_eq_some_iff.1 zc0).1
  have lc1 := (Array.getElem?_eq_some_iff.1 zc1).1
  have lc2 := (Array.getElem?_eq_some_iff.1 zc2).1
  have lc3 := (Array.getElem?_eq_some_iff.1 zc3).1
  clear zc0 zc1 zc2 zc3
  have HBc := Lib.hid hBc; clear hBc
  have HWc := Lib.hid hW1; clear hW1
  by_cases h1 : 40 < t.nT
  · have d1 : decide ((t.nT : Int) > 40) = true := by simp; omega
    have e1 : decide ((40 : Int) < (t.nT : Int)) = true := by simp; omega
    have g1 : decide (40 < t.nT) = true := by simp; omega
    clear h
    go_enter Tryz.func3, Tryz.ntmps3
    go_upto_region 1 with (fail)
    rw [HWc.out]
    refine wp_region_gw (by kernel_rfl) (by kernel_rfl) ?_
    repeat (go_big_quiet_step (fail))
    refine wpQuiet_nil ?_
    rintro _ ⟨z0, rfl⟩
    go_wp2_with fail
    refine (L7.awake_any _).mono ?_
    rintro e w99 ⟨rfl, hb99⟩
    go_wp2_with fail
    go_ret
    exact ⟨rfl, thru hb99 (HBc.out.gw z0)⟩
  by_cases h2 : 40 < t.nS
  · have d1 : decide ((t.nT : Int) > 40) = false := by simp; omega
    have e1 : decide ((40 : Int) < (t.nT : Int)) = false := by simp; omega
    have g1 : decide (40 < t.nT) = false := by simp; omega
    have d2 : decide ((t.nS : Int) > 40) = true := by simp; omega
    have e2 : decide ((40 : Int) < (t.nS : Int)) = true := by simp; omega
    have g2 : decide (40 < t.nS) = true := by simp; omega
    clear h
    go_enter Tryz.func3, Tryz.ntmps3
    go_upto_region 1 with (fail)
    rw [HWc.out]
    refine wp_region_gw (by kernel_rfl) (by kernel_rfl) ?_
    repeat (go_big_quiet_step (fail))
    refine wpQuiet_nil ?_
    rintro _ ⟨z0, rfl⟩
    go_wp2_with fail
    refine (L7.awake_any _).mono ?_
    rintro e w99 ⟨rfl, hb99⟩
    go_wp2_with fail
    go_ret
    exact ⟨rfl, thru hb99 (HBc.out.gw z0)⟩
  by_cases h3 : 10 < C.nA
  · have d1 : decide ((t.nT : Int) > 40) = false := by simp; omega
    have e1 : decide ((40 : Int) < (t.nT : Int)) = false := by simp; omega
    have g1 : decide (40 < t.nT) = false := by simp; omega
    have d2 : decide ((t.nS : Int) > 40) = false := by simp; omega
    have e2 : decide ((40 : Int) < (t.nS : Int)) = false := by simp; omega
    have g2 : decide (40 < t.nS) = false := by simp; omega
    have d3 : decide ((C.nA : Int) > 10) = true := by simp; omega
    have e3 : decide ((10 : Int) < (C.nA : Int)) = true := by simp; omega
    have g3 : decide (10 < C.nA) = true := by simp; omega
    clear h
    go_enter Tryz.func3, Tryz.ntmps3
    go_upto_region 1 with (fail)
    rw [HWc.out]
    refine wp_region_gw (by kernel_rfl) (by kernel_rfl) ?_
    repeat (go_big_quiet_step (fail))
    refine wpQuiet_nil ?_
    rintro _ ⟨z0, rfl⟩
    go_wp2_with fail
    refine (L7.awake_any _).mono ?_
    rintro e w99 ⟨rfl, hb99⟩
    go_wp2_with fail
    go_ret
    exact ⟨rfl, thru hb99 (HBc.out.gw z0)⟩
  by_cases h4 : 70 < k
  · have d1 : decide ((t.nT : Int) > 40) = false := by simp; omega
    have e1 : decide ((40 : Int) < (t.nT : Int)) = false := by simp; omega
    have g1 : decide (40 < t.nT) = false := by simp; omega
    have d2 : decide ((t.nS : Int) > 40) = false := by simp; omega
    have e2 : decide ((40 : Int) < (t.nS : Int)) = false := by simp; omega
    have g2 : decide (40 < t.nS) = false := by simp; omega
    have d3 : decide ((C.nA : Int) > 10) = false := by simp; omega
    have e3 : decide ((10 : Int) < (C.nA : Int)) = false := by simp; omega
    have g3 : decide (10 < C.nA) = false := by simp; omega
    have d4 : decide ((k : Int) > 70) = true := by simp; omega
    have e4 : decide ((70 : Int) < (k : Int)) = true := by simp; omega
    have g4 : decide (70 < k) = true := by simp; omega
    clear h
    go_enter Tryz.func3, Tryz.ntmps3
    go_upto_region 1 with (fail)
    rw [HWc.out]
    refine wp_region_gw (by kernel_rfl) (by kernel_rfl) ?_
    repeat (go_big_quiet_step (fail))
    refine wpQuiet_nil ?_
    rintro _ ⟨z0, rfl⟩
    go_wp2_with fail
    refine (L7.awake_any _).mono ?_
    rintro e w99 ⟨rfl, hb99⟩
    go_wp2_with fail
    go_ret
    exact ⟨rfl, thru hb99 (HBc.out.gw z0)⟩
  have d1 : decide ((t.nT : Int) > 40) = false := by simp; omega
  have e1 : decide ((40 : Int) < (t.nT : Int)) = false := by simp; omega
  have g1 : decide (40 < t.nT) = false := by simp; omega
  have d2 : decide ((t.nS : Int) > 40) = false := by simp; omega
  have e2 : decide ((40 : Int) < (t.nS : Int)) = false := by simp; omega
  have g2 : decide (40 < t.nS) = false := by simp; omega
  have d3 : decide ((C.nA : Int) > 10) = false := by simp; omega
  have e3 : decide ((10 : Int) < (C.nA : Int)) = false := by simp; omega
  have g3 : decide (10 < C.nA) = false := by simp; omega
  have d4 : decide ((k : Int) > 70) = false := by simp; omega
  have e4 : decide ((70 : Int) < (k : Int)) = false := by simp; omega
  have g4 : decide (70 < k) = false := by simp; omega
  have h5 : ((nb : Int) == 0) = true := by simp; omega
  clear h
  go_enter Tryz.func3, Tryz.ntmps3
  go_upto_region 1 with (fail)
  rw [HWc.out]
  refine wp_region_gw (by kernel_rfl) (by kernel_rfl) ?_
  repeat (go_big_quiet_step (fail))
  refine wpQuiet_nil ?_
  rintro _ ⟨z0, rfl⟩
  go_wp2_with fail
  refine (L7.awake_any _).mono ?_
  rintro e w99 ⟨rfl, hb99⟩
  go_wp2_with fail
  go_ret
  exact ⟨rfl, thru hb99 (HBc.out.gw z0)⟩

/-- table, temperature, climate, content and stays are valid, and the first stay begins in time -/
def gaugeB (t : L1.Tab) (tlo thi : Int) (C : L7.Clim) (x : L7.Cont) (k : Nat) (F G : Nat → Int) : Bool := t.okB && (t.fitT tlo thi && (L7.climB C && (L7.contB x && (L7.staysB C.nA k F G && decide (F 0 ≤ x.day)))))
theorem gaugeB_t {t : L1.Tab} {tlo thi : Int} {C : L7.Clim} {x : L7.Cont} {k : Nat} {F G : Nat → Int} (h : gaugeB t tlo thi C x k F G = true) : t.okB = true ∧ t.fitT tlo thi = true ∧ L7.climB C = true ∧ L7.contB x = true ∧ L7.staysB C.nA k F G = true ∧ F 0 ≤ x.day := by
  unfold gaugeB at h
  simp only [Bool.and_eq_true, decide_eq_true_eq] at h
  exact h
set_option maxRecDepth 100000 in
set_option maxHeartbeats 8000000 in
theorem gauge_bad (t : L1.Tab) (tlo thi : Int) (C : L7.Clim) (x : L7.Cont) (aS : Option Addr) (k cS : Nat) (F G : Nat → Int) (dy : Int) (aB : Option Addr) (nb cB : Nat) (U : Nat → Int) (w : World) (hT : t.In w) (hC : C.In w) (hf : C.Fits) (hk : k ≤ 9223372036854775807) (hS : SpansAt w aS k F G) (h1 : t.nT ≤ 40) (h2 : t.nS ≤ 40) (h3 : C.nA ≤ 10) (h4 : k ≤ 70) (h5 : nb ≠ 0) (h : gaugeB t tlo thi C x k F G = false) :
    Calls Tryz.prog 3 #[.agg #[.slice t.aT t.nT t.cT, .slice t.aS t.nS t.cS, .slice t.H.a t.H.n t.H.c, .slice t.R.a t.R.n t.R.c], .agg #[.int .i64 tlo, .int .i64 thi], .agg #[.int .i64 C.days, .slice C.aA C.nA C.cA, .slice C.aW C.nW C.cW], .agg #[.int .i64 x.day, .int .i64 x.alo, .int .i64 x.ahi, .int .i64 x.wlo, .int .i64 x.whi], .slice aS k cS, .int .u8 dy, .slice aB nb cB] w fun e w' => e = .returned (.bool true) ∧ Below w.heap.size w w' := by
  obtain ⟨W1, hW1⟩ : ∃ W1, (((w.alloc (.cells #[.slice t.aT t.nT t.cT, .slice t.aS t.nS t.cS, .slice t.H.a t.H.n t.H.c, .slice t.R.a t.R.n t.R.c] 25)).alloc (.cells #[.int .i64 tlo, .int .i64 thi] 27)).alloc (.cells #[.int .i64 C.days, .slice C.aA C.nA C.cA, .slice C.aW C.nW C.cW] 30)).alloc (.cells #[.int .i64 x.day, .int .i64 x.alo, .int .i64 x.ahi, .int .i64 x.wlo, .int .i64 x.whi] 32) = W1 := ⟨_, rfl⟩
  have hBc : Below w.heap.size w W1 := by rw [← hW1]; exact (((below_alloc _ _).alloc (by simp) _).alloc (by simp <;> omega) _).alloc (by simp <;> omega) _
  have zc0 : W1.heap[w.heap.size]? = some (.cells #[.slice t.aT t.nT t.cT, .slice t.aS t.nS t.cS, .slice t.H.a t.H.n t.H.c, .slice t.R.a t.R.n t.R.c] 25 (0, 0)) := by rw [← hW1]; exact alloc_keep (alloc_keep (alloc_keep (alloc_at rfl)))
  have zc1 : W1.heap[w.heap.size + 1]? = some (.cells #[.int .i64 tlo, .int .i64 thi] 27 (0, 0)) := by rw [← hW1]; exact alloc_keep (alloc_keep (alloc_at (by simp)))
  have zc2 : W1.heap[w.heap.size + 1 + 1]? = some (.cells #[.int .i64 C.days, .slice C.aA C.nA C.cA, .slice C.aW C.nW C.cW] 30 (0, 0)) := by rw [← hW1]; exact alloc_keep (alloc_at (by simp <;> omega))
  have zc3 : W1.heap[w.heap.size + 1 + 1 + 1]? = some (.cells #[.int .i64 x.day, .int .i64 x.alo, .int .i64 x.ahi, .int .i64 x.wlo, .int .i64 x.whi] 32 (0, 0)) := by rw [← hW1]; exact alloc_at (by simp <;> omega)
  have c00 : W1.cell? ⟨w.heap.size, 0, none⟩ = some (.slice t.aT t.nT t.cT) := cell_of_block zc0 0 (by simp)
  have c01 : W1.cell? ⟨w.heap.size, 1, none⟩ = some (.slice t.aS t.nS t.cS) := cell_of_block zc0 1 (by simp)
  have c02 : W1.cell? ⟨w.heap.size, 2, none⟩ = some (.slice t.H.a t.H.n t.H.c) := cell_of_block zc0 2 (by simp)
  have c03 : W1.cell? ⟨w.heap.size, 3, none⟩ = some (.slice t.R.a t.R.n t.R.c) := cell_of_block zc0 3 (by simp)
  have c10 : W1.cell? ⟨w.heap.size + 1, 0, none⟩ = some (.int .i64 tlo) := cell_of_block zc1 0 (by simp)
  have c11 : W1.cell? ⟨w.heap.size + 1, 1, none⟩ = some (.int .i64 thi) := cell_of_block zc1 1 (by simp)
  have c20 : W1.cell? ⟨w.heap.size + 1 + 1, 0, none⟩ = some (.int .i64 C.days) := cell_of_block zc2 0 (by simp)
  have c21 : W1.cell? ⟨w.heap.size + 1 + 1, 1, none⟩ = some (.slice C.aA C.nA C.cA) := cell_of_block zc2 1 (by simp)
  have c22 : W1.cell? ⟨w.heap.size + 1 + 1, 2, none⟩ = some (.slice C.aW C.nW C.cW) := cell_of_block zc2 2 (by simp)
  have c30 : W1.cell? ⟨w.heap.size + 1 + 1 + 1, 0, none⟩ = some (.int .i64 x.day) := cell_of_block zc3 0 (by simp)
  have c31 : W1.cell? ⟨w.heap.size + 1 + 1 + 1, 1, none⟩ = some (.int .i64 x.alo) := cell_of_block zc3 1 (by simp)
  have c32 : W1.cell? ⟨w.heap.size + 1 + 1 + 1, 2, none⟩ = some (.int .i64 x.ahi) := cell_of_block zc3 2 (by simp)
  have c33 : W1.cell? ⟨w.heap.size + 1 + 1 + 1, 3, none⟩ = some (.int .i64 x.wlo) := cell_of_block zc3 3 (by simp)
  have c34 : W1.cell? ⟨w.heap.size + 1 + 1 + 1, 4, none⟩ = some (.int .i64 x.whi) := cell_of_block zc3 4 (by simp)
  have lc0 := (Array.getElem?_eq_some_iff.1 zc0).1
  have lc1 := (Array.getElem?_eq_some_iff.1 zc1).1
  have lc2 := (Array.getElem?_eq_some_iff.1 zc2).1
  have lc3 := (Array.getElem?_eq_some_iff.1 zc3).1
  clear zc0 zc1 zc2 zc3
  have HBc := Lib.hid hBc; clear hBc
  have HWc := Lib.hid hW1; clear hW1
  have I1 := Lib.hid (hT.below HBc.out)
  have HC := Lib.hid (hC.below HBc.out)
  have HS := Lib.hid (hS.below HBc.out)
  have d1 : decide ((t.nT : Int) > 40) = false := by simp; omega
  have e1 : decide ((40 : Int) < (t.nT : Int)) = false := by simp; omega
  have g1 : decide (40 < t.nT) = false := by simp; omega
  have d2 : decide ((t.nS : Int) > 40) = false := by simp; omega
  have e2 : decide ((40 : Int) < (t.nS : Int)) = false := by simp; omega
  have g2 : decide (40 < t.nS) = false := by simp; omega
  have d3 : decide ((C.nA : Int) > 10) = false := by simp; omega
  have e3 : decide ((10 : Int) < (C.nA : Int)) = false := by simp; omega
  have g3 : decide (10 < C.nA) = false := by simp; omega
  have d4 : decide ((k : Int) > 70) = false := by simp; omega
  have e4 : decide ((70 : Int) < (k : Int)) = false := by simp; omega
  have g4 : decide (70 < k) = false := by simp; omega
  have h5b : ((nb : Int) == 0) = false := by simp; omega
  unfold gaugeB at h
  clear hT hC hS
  cases q1 : t.okB with
  | false =>
    have RT := fun z => L1.rTable_b (b := false) t (gw W1 z) (I1.out.below (below_gw W1 z)) ⟨by omega, by omega⟩ q1
    unfold L1.Tab.val at RT
    replace RT := Lib.hid RT
    clear h
    clear q1
    go_enter Tryz.func3, Tryz.ntmps3
    go_upto_region 1 with (fail)
    rw [HWc.out]
    refine wp_region_gw (by kernel_rfl) (by kernel_rfl) ?_
    repeat (go_big_quiet_step (first | (go_at_call 4; with_reducible exact Calls.gw_of (RT.out _))))
    refine wpQuiet_nil ?_
    rintro _ ⟨z0, rfl⟩
    go_wp2_with fail
    refine (L7.awake_any _).mono ?_
    rintro e w99 ⟨rfl, hb99⟩
    go_wp2_with fail
    go_ret
    exact ⟨rfl, thru hb99 (HBc.out.gw z0)⟩
  | true =>
    have RT := fun z => L1.rTable_b (b := true) t (gw W1 z) (I1.out.below (below_gw W1 z)) ⟨by omega, by omega⟩ q1
    unfold L1.Tab.val at RT
    replace RT := Lib.hid RT
    cases q2 : t.fitT tlo thi with
    | false =>
      have g := L1.Tab.good q1
      have t2 := g.ok.t2
      have t32 := g.ok.t32
      simp only [L1.Tab.tb] at t2 t32
      have RP := fun z => L1.rTemp_b (b := false) t tlo thi (gw W1 z) (I1.out.below (below_gw W1 z)) t2 t32 q2
      unfold L1.Tab.val at RP
      replace RP := Lib.hid RP
      clear g t2 t32
      clear h
      clear q1 q2
      go_enter Tryz.func3, Tryz.ntmps3
      go_upto_region 1 with (fail)
      rw [HWc.out]
      refine wp_region_gw (by kernel_rfl) (by kernel_rfl) ?_
      repeat (go_big_quiet_step (first | (go_at_call 4; with_reducible exact Calls.gw_of (RT.out _)) | (go_at_call 5; with_reducible exact Calls.gw_of (RP.out _))))
      refine wpQuiet_nil ?_
      rintro _ ⟨z0, rfl⟩
      go_wp2_with fail
      refine (L7.awake_any _).mono ?_
      rintro e w99 ⟨rfl, hb99⟩
      go_wp2_with fail
      go_ret
      exact ⟨rfl, thru hb99 (HBc.out.gw z0)⟩
    | true =>
      have g := L1.Tab.good q1
      have t2 := g.ok.t2
      have t32 := g.ok.t32
      simp only [L1.Tab.tb] at t2 t32
      have RP := fun z => L1.rTemp_b (b := true) t tlo thi (gw W1 z) (I1.out.below (below_gw W1 z)) t2 t32 q2
      unfold L1.Tab.val at RP
      replace RP := Lib.hid RP
      clear g t2 t32
      cases q3 : L7.climB C with
      | false =>
        have RC := fun z => L7.rClimate_b (b := false) C (gw W1 z) (HC.out.below (below_gw W1 z)) hf q3
        replace RC := Lib.hid RC
        clear h
        clear q1 q2 q3
        go_enter Tryz.func3, Tryz.ntmps3
        go_upto_region 1 with (fail)
        rw [HWc.out]
        refine wp_region_gw (by kernel_rfl) (by kernel_rfl) ?_
        repeat (go_big_quiet_step (first | (go_at_call 4; with_reducible exact Calls.gw_of (RT.out _)) | (go_at_call 5; with_reducible exact Calls.gw_of (RP.out _)) | (go_at_call 6; with_reducible exact Calls.gw_of (RC.out _))))
        refine wpQuiet_nil ?_
        rintro _ ⟨z0, rfl⟩
        go_wp2_with fail
        refine (L7.awake_any _).mono ?_
        rintro e w99 ⟨rfl, hb99⟩
        go_wp2_with fail
        go_ret
        exact ⟨rfl, thru hb99 (HBc.out.gw z0)⟩
      | true =>
        have RC := fun z => L7.rClimate_b (b := true) C (gw W1 z) (HC.out.below (below_gw W1 z)) hf q3
        replace RC := Lib.hid RC
        cases q4 : L7.contB x with
        | false =>
          have RX := fun z => L7.rContent_b (b := false) x (gw W1 z) q4
          replace RX := Lib.hid RX
          clear h
          clear q1 q2 q3 q4
          go_enter Tryz.func3, Tryz.ntmps3
          go_upto_region 1 with (fail)
          rw [HWc.out]
          refine wp_region_gw (by kernel_rfl) (by kernel_rfl) ?_
          repeat (go_big_quiet_step (first | (go_at_call 4; with_reducible exact Calls.gw_of (RT.out _)) | (go_at_call 5; with_reducible exact Calls.gw_of (RP.out _)) | (go_at_call 6; with_reducible exact Calls.gw_of (RC.out _)) | (go_at_call 7; with_reducible exact Calls.gw_of (RX.out _))))
          refine wpQuiet_nil ?_
          rintro _ ⟨z0, rfl⟩
          go_wp2_with fail
          refine (L7.awake_any _).mono ?_
          rintro e w99 ⟨rfl, hb99⟩
          go_wp2_with fail
          go_ret
          exact ⟨rfl, thru hb99 (HBc.out.gw z0)⟩
        | true =>
          have RX := fun z => L7.rContent_b (b := true) x (gw W1 z) q4
          replace RX := Lib.hid RX
          cases q5 : L7.staysB C.nA k F G with
          | false =>
            have RS := fun z => L7.rStays_b (b := false) C aS k cS F G (gw W1 z) hf hk (HS.out.below (below_gw W1 z)) q5
            replace RS := Lib.hid RS
            clear h
            clear q1 q2 q3 q4 q5
            go_enter Tryz.func3, Tryz.ntmps3
            go_upto_region 1 with (fail)
            rw [HWc.out]
            refine wp_region_gw (by kernel_rfl) (by kernel_rfl) ?_
            repeat (go_big_quiet_step (first | (go_at_call 4; with_reducible exact Calls.gw_of (RT.out _)) | (go_at_call 5; with_reducible exact Calls.gw_of (RP.out _)) | (go_at_call 6; with_reducible exact Calls.gw_of (RC.out _)) | (go_at_call 7; with_reducible exact Calls.gw_of (RX.out _)) | (go_at_call 8; with_reducible exact Calls.gw_of (RS.out _))))
            refine wpQuiet_nil ?_
            rintro _ ⟨z0, rfl⟩
            go_wp2_with fail
            refine (L7.awake_any _).mono ?_
            rintro e w99 ⟨rfl, hb99⟩
            go_wp2_with fail
            go_ret
            exact ⟨rfl, thru hb99 (HBc.out.gw z0)⟩
          | true =>
            have RS := fun z => L7.rStays_b (b := true) C aS k cS F G (gw W1 z) hf hk (HS.out.below (below_gw W1 z)) q5
            replace RS := Lib.hid RS
            rw [q1, q2, q3, q4, q5] at h
            have nf : ¬ F 0 ≤ x.day := by simpa using h
            have kp := (L7.staysB_t q5).1.1
            clear h q1 q2 q3 q4 q5
            rcases HS.out with h0 | ⟨sb, so, rfl, sl, sc⟩
            · omega
            have s1 := (sc 0 (by omega)).1
            simp only [Nat.zero_mul, Nat.add_zero] at s1
            clear sc
            obtain ⟨f0, hf0⟩ : ∃ c, F 0 = c := ⟨_, rfl⟩
            rw [hf0] at s1 nf
            clear hf0
            have n1 : decide (f0 > x.day) = true := by simp; omega
            have n2 : decide (x.day < f0) = true := by simp; omega
            clear HS nf
            go_enter Tryz.func3, Tryz.ntmps3
            go_upto_region 1 with (fail)
            rw [HWc.out]
            refine wp_region_gw (by kernel_rfl) (by kernel_rfl) ?_
            repeat (go_big_quiet_step (first | (go_at_call 4; with_reducible exact Calls.gw_of (RT.out _)) | (go_at_call 5; with_reducible exact Calls.gw_of (RP.out _)) | (go_at_call 6; with_reducible exact Calls.gw_of (RC.out _)) | (go_at_call 7; with_reducible exact Calls.gw_of (RX.out _)) | (go_at_call 8; with_reducible exact Calls.gw_of (RS.out _))))
            refine wpQuiet_nil ?_
            rintro _ ⟨z0, rfl⟩
            go_wp2_with fail
            refine (L7.awake_any _).mono ?_
            rintro e w99 ⟨rfl, hb99⟩
            go_wp2_with fail
            go_ret
            exact ⟨rfl, thru hb99 (HBc.out.gw z0)⟩
end Go.Proofs.YtjgnafhbeekebaaGreat
