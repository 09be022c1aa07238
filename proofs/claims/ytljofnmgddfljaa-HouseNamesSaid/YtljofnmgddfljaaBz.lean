/- Contracts of At, at in one form each. No conditions beyond each theorem's own. -/
import Derived.Test.YtljofnmgddfljaaBy
import Derived.Test.YtljofnmgddfljaaBs
set_option linter.unusedVariables false
set_option linter.unusedSimpArgs false
set_option linter.unusedSectionVars false
set_option linter.constructorNameAsVariable false
namespace Go.Proofs.Ytljofnmgddfljaa
open Go.RowKit

attribute [local go_sem] gw_cell gw_frozen gw_size

def atV (C : Clim) (x : Cont) (k : Nat) (F G : Nat → Int) (day : Int) : Cont := if errH C x k F G day = 0 then dayC C F G k x (day - x.day).toNat else zeroCont
theorem atV_ok {C : Clim} {x : Cont} {k : Nat} {F G : Nat → Int} {day : Int} (h : errH C x k F G day = 0) : atV C x k F G day = dayC C F G k x (day - x.day).toNat := if_pos h
theorem atV_err {C : Clim} {x : Cont} {k : Nat} {F G : Nat → Int} {day : Int} (h : errH C x k F G day ≠ 0) : atV C x k F G day = zeroCont := if_neg h
theorem atV_cont {C : Clim} {x : Cont} {k : Nat} {F G : Nat → Int} {day : Int} (h : errH C x k F G day = 0) : contB (atV C x k F G day) = true ∧ (atV C x k F G day).day = day := by
  obtain ⟨g1, g2, g3, g4, g5, g6⟩ := errH_zero h
  rw [atV_ok h]
  have := dayC_ok g1 g3 g2 (day - x.day).toNat (by omega)
  exact ⟨this.1, by omega⟩
theorem At_any (C : Clim) (x : Cont) (aS : Option Addr) (k cS : Nat) (F G : Nat → Int) (day : Int) (w : World) (hC : C.In w) (hf : C.Fits) (hk : k ≤ 9223372036854775807) (hS : SpansAt w aS k F G) :
    Calls Try.prog 17 #[.agg #[.int .i64 C.days, .slice C.aA C.nA C.cA, .slice C.aW C.nW C.cW], x.val, .slice aS k cS, .int .i64 day] w fun e w' => e = .returned (.tuple #[(atV C x k F G day).val, .int .i64 (errH C x k F G day)]) ∧ Below w.heap.size w w' := by
  by_cases h : errH C x k F G day = 0
  · have := At_ok C x aS k cS F G day w hC hf hk hS h
    rw [← atV_ok h] at this
    rw [h]
    exact this
  · have := At_err C x aS k cS F G day w hC hf hk hS rfl h
    rw [← atV_err h] at this
    exact this
theorem rAt_any (C : Clim) (x : Cont) (aS : Option Addr) (k cS : Nat) (F G : Nat → Int) (day : Int) (w : World) (hC : C.In w) (hf : C.Fits) (hk : k ≤ 9223372036854775807) (hS : SpansAt w aS k F G) :
    Calls Try.prog 36 #[.agg #[.int .i64 C.days, .slice C.aA C.nA C.cA, .slice C.aW C.nW C.cW], x.val, .slice aS k cS, .int .i64 day] w fun e w' => e = .returned (.tuple #[(atV C x k F G day).val, .int .i64 (errH C x k F G day)]) ∧ Below w.heap.size w w' := by
  by_cases h : errH C x k F G day = 0
  · have := rAt_ok C x aS k cS F G day w hC hf hk hS h
    rw [← atV_ok h] at this
    rw [h]
    exact this
  · have := rAt_err C x aS k cS F G day w hC hf hk hS rfl h
    rw [← atV_err h] at this
    exact this

/-- the error at a measurement -/
def measE (C : Clim) (x : Cont) (k : Nat) (F G : Nat → Int) (m : Reg) : Int := if regB m = true then errH C x k F G m.day else 1
/-- the content on the day of a measurement -/
def measA (C : Clim) (x : Cont) (k : Nat) (F G : Nat → Int) (m : Reg) : Cont := if regB m = true then atV C x k F G m.day else zeroCont

set_option maxRecDepth 100000 in
set_option maxHeartbeats 4000000 in
theorem atm_any (C : Clim) (x : Cont) (aS : Option Addr) (k cS : Nat) (F G : Nat → Int) (m : Reg) (w : World) (hC : C.In w) (hf : C.Fits) (hk : k ≤ 9223372036854775807) (hS : SpansAt w aS k F G) :
    Calls Try.prog 52 #[.agg #[.int .i64 C.days, .slice C.aA C.nA C.cA, .slice C.aW C.nW C.cW], x.val, .slice aS k cS, m.val] w fun e w' => e = .returned (.tuple #[(measA C x k F G m).val, .int .i64 (measE C x k F G m)]) ∧ Below w.heap.size w w' := by
  rw [show x.val = .agg #[.int .i64 x.day, .int .i64 x.alo, .int .i64 x.ahi, .int .i64 x.wlo, .int .i64 x.whi] from rfl, show m.val = .agg #[.int .i64 m.day, .int .i64 m.vlo, .int .i64 m.vhi, .int .i64 m.slo, .int .i64 m.shi] from rfl]
  obtain ⟨W1, hW1⟩ : ∃ W1, (((w.alloc (.cells #[.int .i64 C.days, .slice C.aA C.nA C.cA, .slice C.aW C.nW C.cW] 24)).alloc (.cells #[.int .i64 x.day, .int .i64 x.alo, .int .i64 x.ahi, .int .i64 x.wlo, .int .i64 x.whi] 28)).alloc (.cells #[.int .i64 m.day, .int .i64 m.vlo, .int .i64 m.vhi, .int .i64 m.slo, .int .i64 m.shi] 44)).alloc (.cells #[.int .i64 0, .int .i64 0, .int .i64 0, .int .i64 0, .int .i64 0] 28) = W1 := ⟨_, rfl⟩
  have hBc : Below w.heap.size w W1 := by rw [← hW1]; exact (((below_alloc _ _).alloc (by simp) _).alloc (by simp <;> omega) _).alloc (by simp <;> omega) _
  have zc0 : W1.heap[w.heap.size]? = some (.cells #[.int .i64 C.days, .slice C.aA C.nA C.cA, .slice C.aW C.nW C.cW] 24 (0, 0)) := by rw [← hW1]; exact alloc_keep (alloc_keep (alloc_keep (alloc_at rfl)))
  have zc1 : W1.heap[w.heap.size + 1]? = some (.cells #[.int .i64 x.day, .int .i64 x.alo, .int .i64 x.ahi, .int .i64 x.wlo, .int .i64 x.whi] 28 (0, 0)) := by rw [← hW1]; exact alloc_keep (alloc_keep (alloc_at (by simp)))
  have zc2 : W1.heap[w.heap.size + 1 + 1]? = some (.cells #[.int .i64 m.day, .int .i64 m.vlo, .int .i64 m.vhi, .int .i64 m.slo, .int .i64 m.shi] 44 (0, 0)) := by rw [← hW1]; exact alloc_keep (alloc_at (by simp <;> omega))
  have zc3 : W1.heap[w.heap.size + 1 + 1 + 1]? = some (.cells #[.int .i64 0, .int .i64 0, .int .i64 0, .int .i64 0, .int .i64 0] 28 (0, 0)) := by rw [← hW1]; exact alloc_at (by simp <;> omega)
  have c00 : W1.cell? ⟨w.heap.size, 0, none⟩ = some (.int .i64 C.days) := cell_of_block zc0 0 (by simp)
  have c01 : W1.cell? ⟨w.heap.size, 1, none⟩ = some (.slice C.aA C.nA C.cA) := cell_of_block zc0 1 (by simp)
  have c02 : W1.cell? ⟨w.heap.size, 2, none⟩ = some (.slice C.aW C.nW C.cW) := cell_of_block zc0 2 (by simp)
  have c10 : W1.cell? ⟨w.heap.size + 1, 0, none⟩ = some (.int .i64 x.day) := cell_of_block zc1 0 (by simp)
  have c11 : W1.cell? ⟨w.heap.size + 1, 1, none⟩ = some (.int .i64 x.alo) := cell_of_block zc1 1 (by simp)
  have c12 : W1.cell? ⟨w.heap.size + 1, 2, none⟩ = some (.int .i64 x.ahi) := cell_of_block zc1 2 (by simp)
  have c13 : W1.cell? ⟨w.heap.size + 1, 3, none⟩ = some (.int .i64 x.wlo) := cell_of_block zc1 3 (by simp)
  have c14 : W1.cell? ⟨w.heap.size + 1, 4, none⟩ = some (.int .i64 x.whi) := cell_of_block zc1 4 (by simp)
  have c20 : W1.cell? ⟨w.heap.size + 1 + 1, 0, none⟩ = some (.int .i64 m.day) := cell_of_block zc2 0 (by simp)
  have c21 : W1.cell? ⟨w.heap.size + 1 + 1, 1, none⟩ = some (.int .i64 m.vlo) := cell_of_block zc2 1 (by simp)
  have c22 : W1.cell? ⟨w.heap.size + 1 + 1, 2, none⟩ = some (.int .i64 m.vhi) := cell_of_block zc2 2 (by simp)
  have c23 : W1.cell? ⟨w.heap.size + 1 + 1, 3, none⟩ = some (.int .i64 m.slo) := cell_of_block zc2 3 (by simp)
  have c24 : W1.cell? ⟨w.heap.size + 1 + 1, 4, none⟩ = some (.int .i64 m.shi) := cell_of_block zc2 4 (by simp)
  have c30 : W1.cell? ⟨w.heap.size + 1 + 1 + 1, 0, none⟩ = some (.int .i64 0) := cell_of_block zc3 0 (by simp)
  have c31 : W1.cell? ⟨w.heap.size + 1 + 1 + 1, 1, none⟩ = some (.int .i64 0) := cell_of_block zc3 1 (by simp)
  have c32 : W1.cell? ⟨w.heap.size + 1 + 1 + 1, 2, none⟩ = some (.int .i64 0) := cell_of_block zc3 2 (by simp)
  have c33 : W1.cell? ⟨w.heap.size + 1 + 1 + 1, 3, none⟩ = some (.int .i64 0) := cell_of_block zc3 3 (by simp)
  have c34 : W1.cell? ⟨w.heap.size + 1 + 1 + 1, 4, none⟩ = some (.int .i64 0) := cell_of_block zc3 4 (by simp)
  have lc0 := (Array.getElem?_eq_some_iff.1 zc0).1
  have lc1 := (Array.getElem?_eq_some_iff.1 zc1).1
  have lc2 := (Array.getElem?_eq_some_iff.1 zc2).1
  have lc3 := (Array.getElem?_eq_some_iff.1 zc3).1
  have fc30 := frozen_of_block zc3 0
  have fc31 := frozen_of_block zc3 1
  have fc32 := frozen_of_block zc3 2
  have fc33 := frozen_of_block zc3 3
  have fc34 := frozen_of_block zc3 4
  have Zc0 := Lib.hid zc0
  have Zc1 := Lib.hid zc1
  have Zc2 := Lib.hid zc2
  have Zc3 := Lib.hid zc3
  clear zc0 zc1 zc2 zc3
  have HBc := Lib.hid hBc; clear hBc
  have HWc := Lib.hid hW1; clear hW1
  have AT := fun z => At_any C x aS k cS F G m.day (gw W1 z) ((hC.below HBc.out).below (below_gw W1 z)) hf hk ((hS.below HBc.out).below (below_gw W1 z))
  clear hC hS
  cases h : regB m with
  | false =>
    rw [show measA C x k F G m = zeroCont from if_neg (by rw [h]; simp), show measE C x k F G m = 1 from if_neg (by rw [h]; simp)]
    rw [show zeroCont.val = .agg #[.int .i64 0, .int .i64 0, .int .i64 0, .int .i64 0, .int .i64 0] from rfl]
    clear AT
    have HM := Lib.hid h; clear h
    go_enter Try.func52, Try.ntmps52
    go_wp2_with fail
    rw [HWc.out]
    go_wp2_with fail
    refine (Calls.grown (isRegauge_b m _ HM.out)).mono ?_
    rintro e w1 ⟨rfl, z1, rfl⟩
    go_wp2_with fail
    refine bodyPost_ret (v := .tuple #[.agg #[.int .i64 0, .int .i64 0, .int .i64 0, .int .i64 0, .int .i64 0], .int .i64 1]) (by simp [results, Try.results52, go_sem, *]) rfl ⟨rfl, ?_⟩
    exact (((((HBc.out.gw z1).setCell (by simp <;> omega) _).setCell (by simp <;> omega) _).setCell (by simp <;> omega) _).setCell (by simp <;> omega) _).setCell (by simp <;> omega) _
  | true =>
    rw [show measA C x k F G m = atV C x k F G m.day from if_pos h, show measE C x k F G m = errH C x k F G m.day from if_pos h]
    generalize atV C x k F G m.day = y at *
    generalize errH C x k F G m.day = E at *
    unfold Cont.val at AT ⊢
    have HM := Lib.hid h; clear h
    have AT' := Lib.hid AT; clear AT
    go_enter Try.func52, Try.ntmps52
    go_wp2_with fail
    rw [HWc.out]
    go_wp2_with fail
    refine (Calls.grown (isRegauge_b m _ HM.out)).mono ?_
    rintro e w1 ⟨rfl, z1, rfl⟩
    go_wp2_with fail
    refine (Calls.gw_of (AT'.out _)).mono ?_
    rintro e w1 ⟨rfl, z2, rfl⟩
    go_wp2_with fail
    refine bodyPost_ret (v := .tuple #[.agg #[.int .i64 y.day, .int .i64 y.alo, .int .i64 y.ahi, .int .i64 y.wlo, .int .i64 y.whi], .int .i64 E]) (by simp [results, Try.results52, go_sem, *]) rfl ⟨rfl, ?_⟩
    exact (((((HBc.out.gw z2).setCell (by simp <;> omega) _).setCell (by simp <;> omega) _).setCell (by simp <;> omega) _).setCell (by simp <;> omega) _).setCell (by simp <;> omega) _
end Go.Proofs.Ytljofnmgddfljaa
