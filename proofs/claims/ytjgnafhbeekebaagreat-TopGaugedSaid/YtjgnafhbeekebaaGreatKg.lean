/- Contracts of At, at in one form each. Contracts of Measure, Shows. No conditions beyond each theorem's own. -/
import Derived.Test.YtjgnafhbeekebaaGreatKf
import Derived.Test.YtjgnafhbeekebaaGreatKe
set_option linter.unusedVariables false
set_option linter.unusedSimpArgs false
set_option linter.unusedSectionVars false
set_option linter.constructorNameAsVariable false
namespace Go.Proofs.YtjgnafhbeekebaaGreat.L7
open Go.RowKit

attribute [local go_sem] gw_cell gw_frozen gw_size

def atV (C : Clim) (x : Cont) (k : Nat) (F G : Nat → Int) (day : Int) : Cont := if errH C x k F G day = 0 then dayC C F G k x (day - x.day).toNat else zeroCont
theorem atV_ok {C : Clim} {x : Cont} {k : Nat} {F G : Nat → Int} {day : Int} (h : errH C x k F G day = 0) : atV C x k F G day = dayC C F G k x (day - x.day).toNat := if_pos h
theorem atV_err {C : Clim} {x : Cont} {k : Nat} {F G : Nat → Int} {day : Int} (h : errH C x k F G day ≠ 0) : atV C x k F G day = zeroCont := if_neg h
theorem atV_cont {C : Clim} {x : Cont} {k : Nat} {F G : Nat → Int} {day : Int} (h : errH C x k F G day = 0) : contB (atV C x k F G day) = true ∧ (atV C x k F G day).day = day := by
  obtain ⟨g1, g2, g3, g4, g5, g6⟩ := errH_zero h
  rw [atV_ok h]
  have := dayC_ok g1 g3 g2 (day - x.day).toNat (by omega)
  exact ⟨this.1, by omega⟩
theorem At_any (C : Clim) (x : Cont) (aS : Option Addr) (k cS : Nat) (F G : Nat → Int) (day : Int) (w : World) (hC : C.In w) (hf : C.Fits) (hk : k ≤ 9223372036854775807) (hS : SpansAt w aS k F G) :
    Calls Tryz.prog 62 #[.agg #[.int .i64 C.days, .slice C.aA C.nA C.cA, .slice C.aW C.nW C.cW], x.val, .slice aS k cS, .int .i64 day] w fun e w' => e = .returned (.tuple #[(atV C x k F G day).val, .int .i64 (errH C x k F G day)]) ∧ Below w.heap.size w w' := by
  by_cases h : errH C x k F G day = 0
  · have := At_ok C x aS k cS F G day w hC hf hk hS h
    rw [← atV_ok h] at this
    rw [h]
    exact this
  · have := At_err C x aS k cS F G day w hC hf hk hS rfl h
    rw [← atV_err h] at this
    exact this
/-- the error at a measurement -/
def measE (C : Clim) (x : Cont) (k : Nat) (F G : Nat → Int) (m : Reg) : Int := if regB m = true then errH C x k F G m.day else 1
/-- the content on the day of a measurement -/
def measA (C : Clim) (x : Cont) (k : Nat) (F G : Nat → Int) (m : Reg) : Cont := if regB m = true then atV C x k F G m.day else zeroCont

set_option maxRecDepth 100000 in
set_option maxHeartbeats 4000000 in
theorem atm_any (C : Clim) (x : Cont) (aS : Option Addr) (k cS : Nat) (F G : Nat → Int) (m : Reg) (w : World) (hC : C.In w) (hf : C.Fits) (hk : k ≤ 9223372036854775807) (hS : SpansAt w aS k F G) :
    Calls Tryz.prog 36 #[.agg #[.int .i64 C.days, .slice C.aA C.nA C.cA, .slice C.aW C.nW C.cW], x.val, .slice aS k cS, m.val] w fun e w' => e = .returned (.tuple #[(measA C x k F G m).val, .int .i64 (measE C x k F G m)]) ∧ Below w.heap.size w w' := by
  rw [show x.val = .agg #[.int .i64 x.day, .int .i64 x.alo, .int .i64 x.ahi, .int .i64 x.wlo, .int .i64 x.whi] from rfl, show m.val = .agg #[.int .i64 m.day, .int .i64 m.vlo, .int .i64 m.vhi, .int .i64 m.slo, .int .i64 m.shi] from rfl]
  obtain ⟨W1, hW1⟩ : ∃ W1, (((w.alloc (.cells #[.int .i64 C.days, .slice C.aA C.nA C.cA, .slice C.aW C.nW C.cW] 30)).alloc (.cells #[.int .i64 x.day, .int .i64 x.alo, .int .i64 x.ahi, .int .i64 x.wlo, .int .i64 x.whi] 32)).alloc (.cells #[.int .i64 m.day, .int .i64 m.vlo, .int .i64 m.vhi, .int .i64 m.slo, .int .i64 m.shi] 58)).alloc (.cells #[.int .i64 0, .int .i64 0, .int .i64 0, .int .i64 0, .int .i64 0] 32) = W1 := ⟨_, rfl⟩
  have hBc : Below w.heap.size w W1 := by rw [← hW1]; exact (((below_alloc _ _).alloc (by simp) _).alloc (by simp <;> omega) _).alloc (by simp <;> omega) _
  have zc0 : W1.heap[w.heap.size]? = some (.cells #[.int .i64 C.days, .slice C.aA C.nA C.cA, .slice C.aW C.nW C.cW] 30 (0, 0)) := by rw [← hW1]; exact alloc_keep (alloc_keep (alloc_keep (alloc_at rfl)))
  have zc1 : W1.heap[w.heap.size + 1]? = some (.cells #[.int .i64 x.day, .int .i64 x.alo, .int .i64 x.ahi, .int .i64 x.wlo, .int .i64 x.whi] 32 (0, 0)) := by rw [← hW1]; exact alloc_keep (alloc_keep (alloc_at (by simp)))
  have zc2 : W1.heap[w.heap.size + 1 + 1]? = some (.cells #[.int .i64 m.day, .int .i64 m.vlo, .int .i64 m.vhi, .int .i64 m.slo, .int .i64 m.shi] 58 (0, 0)) := by rw [← hW1]; exact alloc_keep (alloc_at (by simp <;> omega))
  have zc3 : W1.heap[w.heap.size + 1 + 1 + 1]? = some (.cells #[.int .i64 0, .int .i64 0, .int .i64 0, .int .i64 0, .int .i64 0] 32 (0, 0)) := by rw [← hW1]; exact alloc_at (by simp <;> omega)
  have c00 : W1.cell? ⟨w.heap.size, 0, none⟩ = some (.int .i64 C.days) := cell_of_block zc0 0 (by simp)
  have c01 : W1.cell? ⟨w.heap.size, 1, none⟩ = some (.slice C.aA C.nA C.cA) := cell_of_block zc0 1 (by simp)
  have c02 : W1.cell? ⟨w.heap.size, 2, none⟩ = some (.slice C.aW C.nW C.cW) := cell_of_block zc0 2 (by simp)
  have c10 : W1.cell? ⟨w.heap.size + 1, 0, none⟩ = some (.int .i64 x.day) := cell_of_block zc1 0 (by simp)
  have c11 : W1.cell? ⟨w.heap.size + 1, 1, none⟩ = some (.int .i64 x.alo) := cell_of_block zc1 1 (by simp)
  have c12 : W1.cell? ⟨w.heap.size + 1, 2, none⟩ = some (.int .i64 x.ahi) := cell_of_block zc1 2 (by simp)
  have c13 : W1.cell? ⟨w.heap.size + 1, 3, none⟩ = some (.int .i64 x.wlo) := cell_of_block zc1 3 (by simp)
  have c14 : W1.cell? ⟨w.heap.size + 1, 4, none⟩ = some (.int .i64 x.whi) := cell_of_block zc1 4 (by simp)
  have c20 : W1.cell? ⟨w.heap.size + 1 + 1, 0, none⟩ = some (.int .i64 m.day) := cell_of_block zc2 0 (by simp)
  have c21 : W1.cell? ⟨w.heap.size + 1 + 1, 1, none⟩ = some (.int .i64 m.vlo) := cell_of_block zc2 1 (by simp)
  have c22 : W1.cell? ⟨w.heap.size + 1 + 1, 2, none⟩ = some (.int .i64 m.vhi) := cell_of_block zc2 2 (by simp)
  have c23 : W1.cell? ⟨w.heap.size + 1 + 1, 3, none⟩ = some (.int .i64 m.slo) := cell_of_block zc2 3 (by simp)
  have c24 : W1.cell? ⟨w.heap.size + 1 + 1, 4, none⟩ = some (.int .i64 m.shi) := cell_of_block zc2 4 (by simp)
  have c30 : W1.cell? ⟨w.heap.size + 1 + 1 + 1, 0, none⟩ = some (.int .i64 0) := cell_of_block zc3 0 (by simp)
  have c31 : W1.cell? ⟨w.heap.size + 1 + 1 + 1, 1, none⟩ = some (.int .i64 0) := cell_of_block zc3 1 (by simp)
  have c32 : W1.cell? ⟨w.heap.size + 1 + 1 + 1, 2, none⟩ = some (.int .i64 0) := cell_of_block zc3 2 (by simp)
  have c33 : W1.cell? ⟨w.heap.size + 1 + 1 + 1, 3, none⟩ = some (.int .i64 0) := cell_of_block zc3 3 (by simp)
  have c34 : W1.cell? ⟨w.heap.size + 1 + 1 + 1, 4, none⟩ = some (.int .i64 0) := cell_of_block zc3 4 (by simp)
  have lc0 := (Array.getElem?_eq_some_iff.1 zc0).1
  have lc1 := (Array.getElem?_eq_some_iff.1 zc1).1
  have lc2 := (Array.getElem?_eq_some_iff.1 zc2).1
  have lc3 := (Array.getElem?_eq_some_iff.1 zc3).1
  have fc30 := frozen_of_block zc3 0
  have fc31 := frozen_of_block zc3 1
  have fc32 := frozen_of_block zc3 2
  have fc33 := frozen_of_block zc3 3
  have fc34 := frozen_of_block zc3 4
  have Zc0 := Lib.hid zc0
  have Zc1 := Lib.hid zc1
  have Zc2 := Lib.hid zc2
  have Zc3 := Lib.hid zc3
  clear zc0 zc1 zc2 zc3
  have HBc := Lib.hid hBc; clear hBc
  have HWc := Lib.hid hW1; clear hW1
  have AT := fun z => At_any C x aS k cS F G m.day (gw W1 z) ((hC.below HBc.out).below (below_gw W1 z)) hf hk ((hS.below HBc.out).below (below_gw W1 z))
  clear hC hS
  cases h : regB m with
  | false =>
    rw [show measA C x k F G m = zeroCont from if_neg (by rw [h]; simp), show measE C x k F G m = 1 from if_neg (by rw [h]; simp)]
    rw [show zeroCont.val = .agg #[.int .i64 0, .int .i64 0, .int .i64 0, .int .i64 0, .int .i64 0] from rfl]
    clear AT
    have HM := Lib.hid h; clear h
    go_enter Tryz.func36, Tryz.ntmps36
    go_wp2_with fail
    rw [HWc.out]
    go_wp2_with fail
    refine (Calls.grown (isRegauge_b m _ HM.out)).mono ?_
    rintro e w1 ⟨rfl, z1, rfl⟩
    go_wp2_with fail
    refine bodyPost_ret (v := .tuple #[.agg #[.int .i64 0, .int .i64 0, .int .i64 0, .int .i64 0, .int .i64 0], .int .i64 1]) (by simp [results, Tryz.results36, go_sem, *]) rfl ⟨rfl, ?_⟩
    exact (((((HBc.out.gw z1).setCell (by simp <;> omega) _).setCell (by simp <;> omega) _).setCell (by simp <;> omega) _).setCell (by simp <;> omega) _).setCell (by simp <;> omega) _
  | true =>
    rw [show measA C x k F G m = atV C x k F G m.day from if_pos h, show measE C x k F G m = errH C x k F G m.day from if_pos h]
    generalize atV C x k F G m.day = y at *
    generalize errH C x k F G m.day = E at *
    unfold Cont.val at AT ⊢
    have HM := Lib.hid h; clear h
    have AT' := Lib.hid AT; clear AT
    go_enter Tryz.func36, Tryz.ntmps36
    go_wp2_with fail
    rw [HWc.out]
    go_wp2_with fail
    refine (Calls.grown (isRegauge_b m _ HM.out)).mono ?_
    rintro e w1 ⟨rfl, z1, rfl⟩
    go_wp2_with fail
    refine (Calls.gw_of (AT'.out _)).mono ?_
    rintro e w1 ⟨rfl, z2, rfl⟩
    go_wp2_with fail
    refine bodyPost_ret (v := .tuple #[.agg #[.int .i64 y.day, .int .i64 y.alo, .int .i64 y.ahi, .int .i64 y.wlo, .int .i64 y.whi], .int .i64 E]) (by simp [results, Tryz.results36, go_sem, *]) rfl ⟨rfl, ?_⟩
    exact (((((HBc.out.gw z2).setCell (by simp <;> omega) _).setCell (by simp <;> omega) _).setCell (by simp <;> omega) _).setCell (by simp <;> omega) _).setCell (by simp <;> omega) _
end Go.Proofs.YtjgnafhbeekebaaGreat.L7

namespace Go.Proofs.YtjgnafhbeekebaaGreat.L7
open Go.RowKit

attribute [local go_sem] gw_cell gw_frozen gw_size

section
variable (C : Clim) (x : Cont) (k : Nat) (F G : Nat → Int) (m : Reg)
def measF : Int := if measE C x k F G m = 0 then if meetB (measA C x k F G m) (measC m) = true then 0 else 11 else measE C x k F G m
def measV : Cont := if measE C x k F G m = 0 then if meetB (measA C x k F G m) (measC m) = true then meetC (measA C x k F G m) (measC m) else zeroCont else zeroCont
def showV : Int := if measE C x k F G m = 0 then showsN (measA C x k F G m) (measC m) else 0
end
theorem measE_zero {C : Clim} {x : Cont} {k : Nat} {F G : Nat → Int} {m : Reg} (h : measE C x k F G m = 0) : regB m = true ∧ errH C x k F G m.day = 0 ∧ measA C x k F G m = atV C x k F G m.day := by
  unfold measE at h
  split at h
  · rename_i h2; exact ⟨h2, h, if_pos h2⟩
  · omega
theorem zero_val : zeroCont.val = .agg #[.int .i64 0, .int .i64 0, .int .i64 0, .int .i64 0, .int .i64 0] := rfl

set_option maxRecDepth 100000 in
set_option maxHeartbeats 4000000 in
theorem Measure_any (C : Clim) (x : Cont) (aS : Option Addr) (k cS : Nat) (F G : Nat → Int) (m : Reg) (w : World) (hC : C.In w) (hf : C.Fits) (hk : k ≤ 9223372036854775807) (hS : SpansAt w aS k F G) :
    Calls Tryz.prog 18 #[.agg #[.int .i64 C.days, .slice C.aA C.nA C.cA, .slice C.aW C.nW C.cW], x.val, .slice aS k cS, m.val] w fun e w' => e = .returned (.tuple #[(measV C x k F G m).val, .int .i64 (measF C x k F G m)]) ∧ Below w.heap.size w w' := by
  rw [show x.val = .agg #[.int .i64 x.day, .int .i64 x.alo, .int .i64 x.ahi, .int .i64 x.wlo, .int .i64 x.whi] from rfl, show m.val = .agg #[.int .i64 m.day, .int .i64 m.vlo, .int .i64 m.vhi, .int .i64 m.slo, .int .i64 m.shi] from rfl]
  obtain ⟨W1, hW1⟩ : ∃ W1, (((w.alloc (.cells #[.int .i64 C.days, .slice C.aA C.nA C.cA, .slice C.aW C.nW C.cW] 30)).alloc (.cells #[.int .i64 x.day, .int .i64 x.alo, .int .i64 x.ahi, .int .i64 x.wlo, .int .i64 x.whi] 32)).alloc (.cells #[.int .i64 m.day, .int .i64 m.vlo, .int .i64 m.vhi, .int .i64 m.slo, .int .i64 m.shi] 58)).alloc (.cells #[.int .i64 0, .int .i64 0, .int .i64 0, .int .i64 0, .int .i64 0] 32) = W1 := ⟨_, rfl⟩
  have hBc : Below w.heap.size w W1 := by rw [← hW1]; exact (((below_alloc _ _).alloc (by simp) _).alloc (by simp <;> omega) _).alloc (by simp <;> omega) _
  have zc0 : W1.heap[w.heap.size]? = some (.cells #[.int .i64 C.days, .slice C.aA C.nA C.cA, .slice C.aW C.nW C.cW] 30 (0, 0)) := by rw [← hW1]; exact alloc_keep (alloc_keep (alloc_keep (alloc_at rfl)))
  have zc1 : W1.heap[w.heap.size + 1]? = some (.cells #[.int .i64 x.day, .int .i64 x.alo, .int .i64 x.ahi, .int .i64 x.wlo, .int .i64 x.whi] 32 (0, 0)) := by rw [← hW1]; exact alloc_keep (alloc_keep (alloc_at (by simp)))
  have zc2 : W1.heap[w.heap.size + 1 + 1]? = some (.cells #[.int .i64 m.day, .int .i64 m.vlo, .int .i64 m.vhi, .int .i64 m.slo, .int .i64 m.shi] 58 (0, 0)) := by rw [← hW1]; exact alloc_keep (alloc_at (by simp <;> omega))
  have zc3 : W1.heap[w.heap.size + 1 + 1 + 1]? = some (.cells #[.int .i64 0, .int .i64 0, .int .i64 0, .int .i64 0, .int .i64 0] 32 (0, 0)) := by rw [← hW1]; exact alloc_at (by simp <;> omega)
  have c00 : W1.cell? ⟨w.heap.size, 0, none⟩ = some (.int .i64 C.days) := cell_of_block zc0 0 (by simp)
  have c01 : W1.cell? ⟨w.heap.size, 1, none⟩ = some (.slice C.aA C.nA C.cA) := cell_of_block zc0 1 (by simp)
  have c02 : W1.cell? ⟨w.heap.size, 2, none⟩ = some (.slice C.aW C.nW C.cW) := cell_of_block zc0 2 (by simp)
  have c10 : W1.cell? ⟨w.heap.size + 1, 0, none⟩ = some (.int .i64 x.day) := cell_of_block zc1 0 (by simp)
  have c11 : W1.cell? ⟨w.heap.size + 1, 1, none⟩ = some (.int .i64 x.alo) := cell_of_block zc1 1 (by simp)
  have c12 : W1.cell? ⟨w.heap.size + 1, 2, none⟩ = some (.int .i64 x.ahi) := cell_of_block zc1 2 (by simp)
  have c13 : W1.cell? ⟨w.heap.size + 1, 3, none⟩ = some (.int .i64 x.wlo) := cell_of_block zc1 3 (by simp)
  have c14 : W1.cell? ⟨w.heap.size + 1, 4, none⟩ = some (.int .i64 x.whi) := cell_of_block zc1 4 (by simp)
  have c20 : W1.cell? ⟨w.heap.size + 1 + 1, 0, none⟩ = some (.int .i64 m.day) := cell_of_block zc2 0 (by simp)
  have c21 : W1.cell? ⟨w.heap.size + 1 + 1, 1, none⟩ = some (.int .i64 m.vlo) := cell_of_block zc2 1 (by simp)
  have c22 : W1.cell? ⟨w.heap.size + 1 + 1, 2, none⟩ = some (.int .i64 m.vhi) := cell_of_block zc2 2 (by simp)
  have c23 : W1.cell? ⟨w.heap.size + 1 + 1, 3, none⟩ = some (.int .i64 m.slo) := cell_of_block zc2 3 (by simp)
  have c24 : W1.cell? ⟨w.heap.size + 1 + 1, 4, none⟩ = some (.int .i64 m.shi) := cell_of_block zc2 4 (by simp)
  have c30 : W1.cell? ⟨w.heap.size + 1 + 1 + 1, 0, none⟩ = some (.int .i64 0) := cell_of_block zc3 0 (by simp)
  have c31 : W1.cell? ⟨w.heap.size + 1 + 1 + 1, 1, none⟩ = some (.int .i64 0) := cell_of_block zc3 1 (by simp)
  have c32 : W1.cell? ⟨w.heap.size + 1 + 1 + 1, 2, none⟩ = some (.int .i64 0) := cell_of_block zc3 2 (by simp)
  have c33 : W1.cell? ⟨w.heap.size + 1 + 1 + 1, 3, none⟩ = some (.int .i64 0) := cell_of_block zc3 3 (by simp)
  have c34 : W1.cell? ⟨w.heap.size + 1 + 1 + 1, 4, none⟩ = some (.int .i64 0) := cell_of_block zc3 4 (by simp)
  have lc0 := (Array.getElem?_eq_some_iff.1 zc0).1
  have lc1 := (Array.getElem?_eq_some_iff.1 zc1).1
  have lc2 := (Array.getElem?_eq_some_iff.1 zc2).1
  have lc3 := (Array.getElem?_eq_some_iff.1 zc3).1
  have fc30 := frozen_of_block zc3 0
  have fc31 := frozen_of_block zc3 1
  have fc32 := frozen_of_block zc3 2
  have fc33 := frozen_of_block zc3 3
  have fc34 := frozen_of_block zc3 4
  have Zc0 := Lib.hid zc0
  have Zc1 := Lib.hid zc1
  have Zc2 := Lib.hid zc2
  have Zc3 := Lib.hid zc3
  clear zc0 zc1 zc2 zc3
  have HBc := Lib.hid hBc; clear hBc
  have HWc := Lib.hid hW1; clear hW1
  have AT := atm_any C x aS k cS F G m W1 (hC.below HBc.out) hf hk (hS.below HBc.out)
  clear hC hS
  rw [show m.val = .agg #[.int .i64 m.day, .int .i64 m.vlo, .int .i64 m.vhi, .int .i64 m.slo, .int .i64 m.shi] from rfl, show x.val = .agg #[.int .i64 x.day, .int .i64 x.alo, .int .i64 x.ahi, .int .i64 x.wlo, .int .i64 x.whi] from rfl] at AT
  by_cases h : measE C x k F G m = 0
  · obtain ⟨hm, -, -⟩ := measE_zero h
    have MS := fun W => measured_any m W hm
    rw [show measF C x k F G m = _ from if_pos h, show measV C x k F G m = _ from if_pos h]
    rw [h] at AT
    generalize measA C x k F G m = y at *
    generalize measC m = u at *
    have MT := fun W => met_any y u W
    rw [show m.val = .agg #[.int .i64 m.day, .int .i64 m.vlo, .int .i64 m.vhi, .int .i64 m.slo, .int .i64 m.shi] from rfl] at MS
    rw [show y.val = .agg #[.int .i64 y.day, .int .i64 y.alo, .int .i64 y.ahi, .int .i64 y.wlo, .int .i64 y.whi] from rfl] at AT
    rw [show y.val = .agg #[.int .i64 y.day, .int .i64 y.alo, .int .i64 y.ahi, .int .i64 y.wlo, .int .i64 y.whi] from rfl, show (meetC y u).val = .agg #[.int .i64 (meetC y u).day, .int .i64 (meetC y u).alo, .int .i64 (meetC y u).ahi, .int .i64 (meetC y u).wlo, .int .i64 (meetC y u).whi] from rfl] at MT
    rw [show u.val = .agg #[.int .i64 u.day, .int .i64 u.alo, .int .i64 u.ahi, .int .i64 u.wlo, .int .i64 u.whi] from rfl] at MS MT
    have AT' := Lib.hid AT; clear AT
    have MS' := Lib.hid MS; clear MS h
    by_cases hb : meetB y u = true
    · rw [if_pos hb, if_pos hb, show (meetC y u).val = .agg #[.int .i64 (meetC y u).day, .int .i64 (meetC y u).alo, .int .i64 (meetC y u).ahi, .int .i64 (meetC y u).wlo, .int .i64 (meetC y u).whi] from rfl]
      rw [hb] at MT
      have MT' := Lib.hid MT; clear MT hb
      go_enter Tryz.func18, Tryz.ntmps18
      go_wp2_with fail
      rw [HWc.out]
      go_wp2_with fail
      refine (Calls.grown (AT'.out)).mono ?_
      rintro e w1 ⟨rfl, z1, rfl⟩
      go_upto_region 2 with (fail)
      obtain ⟨W2, hW2⟩ : ∃ W2, ((gw W1 z1)).alloc (.cells #[.int .i64 y.day, .int .i64 y.alo, .int .i64 y.ahi, .int .i64 y.wlo, .int .i64 y.whi] 32) = W2 := ⟨_, rfl⟩
      have hbW2 : Below W1.heap.size W1 W2 := by rw [← hW2]; exact (below_gw W1 z1).alloc (by simp [gw_size]) _
      have ZrW2 := Lib.hid ((hbW2.block _ (Array.getElem?_eq_some_iff.1 Zc2.out).1).trans Zc2.out)
      have ZoW2 := Lib.hid ((hbW2.block _ (Array.getElem?_eq_some_iff.1 Zc3.out).1).trans Zc3.out)
      have zyW2 : W2.heap[W1.heap.size + z1.bs.size]? = some (.cells #[.int .i64 y.day, .int .i64 y.alo, .int .i64 y.ahi, .int .i64 y.wlo, .int .i64 y.whi] 32 (0, 0)) := by rw [← hW2]; exact alloc_at (by simp [gw_size])
      have ZyW2 := Lib.hid zyW2; clear zyW2
      have HBW2 := Lib.hid (thru hbW2 HBc.out)
      have SBW2 := Lib.hid hbW2; clear hbW2
      have HWW2 := Lib.hid hW2; clear hW2
      rw [HWW2.out]
      clear c00 c01 c02 c10 c11 c12 c13 c14 c20 c21 c22 c23 c24 c30 c31 c32 c33 c34 fc30 fc31 fc32 fc33 fc34
      have er0W2 : W2.cell? ⟨w.heap.size + 1 + 1, 0, none⟩ = some (.int .i64 m.day) := cell_of_block ZrW2.out 0 (by simp)
      have er1W2 : W2.cell? ⟨w.heap.size + 1 + 1, 1, none⟩ = some (.int .i64 m.vlo) := cell_of_block ZrW2.out 1 (by simp)
      have er2W2 : W2.cell? ⟨w.heap.size + 1 + 1, 2, none⟩ = some (.int .i64 m.vhi) := cell_of_block ZrW2.out 2 (by simp)
      have er3W2 : W2.cell? ⟨w.heap.size + 1 + 1, 3, none⟩ = some (.int .i64 m.slo) := cell_of_block ZrW2.out 3 (by simp)
      have er4W2 : W2.cell? ⟨w.heap.size + 1 + 1, 4, none⟩ = some (.int .i64 m.shi) := cell_of_block ZrW2.out 4 (by simp)
      have lrW2 := (Array.getElem?_eq_some_iff.1 ZrW2.out).1
      have eo0W2 : W2.cell? ⟨w.heap.size + 1 + 1 + 1, 0, none⟩ = some (.int .i64 0) := cell_of_block ZoW2.out 0 (by simp)
      have fo0W2 := frozen_of_block ZoW2.out 0
      have eo1W2 : W2.cell? ⟨w.heap.size + 1 + 1 + 1, 1, none⟩ = some (.int .i64 0) := cell_of_block ZoW2.out 1 (by simp)
      have fo1W2 := frozen_of_block ZoW2.out 1
      have eo2W2 : W2.cell? ⟨w.heap.size + 1 + 1 + 1, 2, none⟩ = some (.int .i64 0) := cell_of_block ZoW2.out 2 (by simp)
      have fo2W2 := frozen_of_block ZoW2.out 2
      have eo3W2 : W2.cell? ⟨w.heap.size + 1 + 1 + 1, 3, none⟩ = some (.int .i64 0) := cell_of_block ZoW2.out 3 (by simp)
      have fo3W2 := frozen_of_block ZoW2.out 3
      have eo4W2 : W2.cell? ⟨w.heap.size + 1 + 1 + 1, 4, none⟩ = some (.int .i64 0) := cell_of_block ZoW2.out 4 (by simp)
      have fo4W2 := frozen_of_block ZoW2.out 4
      have loW2 := (Array.getElem?_eq_some_iff.1 ZoW2.out).1
      have ey0W2 : W2.cell? ⟨W1.heap.size + z1.bs.size, 0, none⟩ = some (.int .i64 y.day) := cell_of_block ZyW2.out 0 (by simp)
      have ey1W2 : W2.cell? ⟨W1.heap.size + z1.bs.size, 1, none⟩ = some (.int .i64 y.alo) := cell_of_block ZyW2.out 1 (by simp)
      have ey2W2 : W2.cell? ⟨W1.heap.size + z1.bs.size, 2, none⟩ = some (.int .i64 y.ahi) := cell_of_block ZyW2.out 2 (by simp)
      have ey3W2 : W2.cell? ⟨W1.heap.size + z1.bs.size, 3, none⟩ = some (.int .i64 y.wlo) := cell_of_block ZyW2.out 3 (by simp)
      have ey4W2 : W2.cell? ⟨W1.heap.size + z1.bs.size, 4, none⟩ = some (.int .i64 y.whi) := cell_of_block ZyW2.out 4 (by simp)
      have lyW2 := (Array.getElem?_eq_some_iff.1 ZyW2.out).1
      go_wp2_with fail
      refine wp_region_box1 [true, true, true, true, true, true, true, false, false, true] 7 8 #[.int .i64 0, .int .i64 0, .int .i64 0, .int .i64 0, .int .i64 0] #[.int .i64 (meetC y u).day, .int .i64 (meetC y u).alo, .int .i64 (meetC y u).ahi, .int .i64 (meetC y u).wlo, .int .i64 (meetC y u).whi] (by kernel_rfl) rfl rfl rfl (by kernel_rfl) rfl (by kernel_rfl) infoCont rfl rfl (by simp [Value.oneCell']) ?_
      apply Exists.intro
      refine ⟨fun S hS hx => ?_, ?_, ?_⟩
      · obtain ⟨x0, hx0⟩ := hx
        haveI : Nonempty (GrewS W2 S) := ⟨⟨x0, hx0⟩⟩
        simp only [pickM]
        repeat (go_big_quiet_step (first | (go_at_call 38; exact Calls.gwS hS (MS'.out _)) | (go_at_call 39; exact Calls.gwS hS (MT'.out _))))
        exact wpQuiet_nil rfl
      · rfl
      · intro B w5 hBw hblk hb5
        have zo := (hb5.block _ loW2).trans ZoW2.out
        have B5 := Lib.hid (thru hb5 HBW2.out)
        have HZ := Lib.hid zo
        have HK := Lib.hid hblk
        have s0 := cell_of_block hblk 0 (by simp)
        have p0 := cell_of_block zo 0 (by simp)
        have f0 := frozen_of_block zo 0
        have s1 := cell_of_block hblk 1 (by simp)
        have p1 := cell_of_block zo 1 (by simp)
        have f1 := frozen_of_block zo 1
        have s2 := cell_of_block hblk 2 (by simp)
        have p2 := cell_of_block zo 2 (by simp)
        have f2 := frozen_of_block zo 2
        have s3 := cell_of_block hblk 3 (by simp)
        have p3 := cell_of_block zo 3 (by simp)
        have f3 := frozen_of_block zo 3
        have s4 := cell_of_block hblk 4 (by simp)
        have p4 := cell_of_block zo 4 (by simp)
        have f4 := frozen_of_block zo 4
        simp at s0 s1 s2 s3 s4 p0 p1 p2 p3 p4
        clear zo hblk hb5 er0W2 er1W2 er2W2 er3W2 er4W2 eo0W2 eo1W2 eo2W2 eo3W2 eo4W2 ey0W2 ey1W2 ey2W2 ey3W2 ey4W2 fo0W2 fo1W2 fo2W2 fo3W2 fo4W2
        go_upto_region 5 with (fail)
        simp only [Act.put, List.setIfInBounds_toArray, List.set_cons_succ, List.set_cons_zero]
        go_wp2_with fail
        refine bodyPost_ret (v := .tuple #[.agg #[.int .i64 (meetC y u).day, .int .i64 (meetC y u).alo, .int .i64 (meetC y u).ahi, .int .i64 (meetC y u).wlo, .int .i64 (meetC y u).whi], .int .i64 0]) (by simp [results, Tryz.results18, go_sem, *]) rfl ⟨rfl, ?_⟩
        exact (((((B5.out).setCell (by simp <;> omega) _).setCell (by simp <;> omega) _).setCell (by simp <;> omega) _).setCell (by simp <;> omega) _).setCell (by simp <;> omega) _
    · have hb' : meetB y u = false := by simpa using hb
      rw [if_neg hb, if_neg hb, zero_val]
      rw [hb'] at MT
      have MT' := Lib.hid MT; clear MT hb hb'
      go_enter Tryz.func18, Tryz.ntmps18
      go_wp2_with fail
      rw [HWc.out]
      go_wp2_with fail
      refine (Calls.grown (AT'.out)).mono ?_
      rintro e w1 ⟨rfl, z1, rfl⟩
      go_upto_region 2 with (fail)
      obtain ⟨W2, hW2⟩ : ∃ W2, ((gw W1 z1)).alloc (.cells #[.int .i64 y.day, .int .i64 y.alo, .int .i64 y.ahi, .int .i64 y.wlo, .int .i64 y.whi] 32) = W2 := ⟨_, rfl⟩
      have hbW2 : Below W1.heap.size W1 W2 := by rw [← hW2]; exact (below_gw W1 z1).alloc (by simp [gw_size]) _
      have ZrW2 := Lib.hid ((hbW2.block _ (Array.getElem?_eq_some_iff.1 Zc2.out).1).trans Zc2.out)
      have ZoW2 := Lib.hid ((hbW2.block _ (Array.getElem?_eq_some_iff.1 Zc3.out).1).trans Zc3.out)
      have zyW2 : W2.heap[W1.heap.size + z1.bs.size]? = some (.cells #[.int .i64 y.day, .int .i64 y.alo, .int .i64 y.ahi, .int .i64 y.wlo, .int .i64 y.whi] 32 (0, 0)) := by rw [← hW2]; exact alloc_at (by simp [gw_size])
      have ZyW2 := Lib.hid zyW2; clear zyW2
      have HBW2 := Lib.hid (thru hbW2 HBc.out)
      have SBW2 := Lib.hid hbW2; clear hbW2
      have HWW2 := Lib.hid hW2; clear hW2
      rw [HWW2.out]
      clear c00 c01 c02 c10 c11 c12 c13 c14 c20 c21 c22 c23 c24 c30 c31 c32 c33 c34 fc30 fc31 fc32 fc33 fc34
      have er0W2 : W2.cell? ⟨w.heap.size + 1 + 1, 0, none⟩ = some (.int .i64 m.day) := cell_of_block ZrW2.out 0 (by simp)
      have er1W2 : W2.cell? ⟨w.heap.size + 1 + 1, 1, none⟩ = some (.int .i64 m.vlo) := cell_of_block ZrW2.out 1 (by simp)
      have er2W2 : W2.cell? ⟨w.heap.size + 1 + 1, 2, none⟩ = some (.int .i64 m.vhi) := cell_of_block ZrW2.out 2 (by simp)
      have er3W2 : W2.cell? ⟨w.heap.size + 1 + 1, 3, none⟩ = some (.int .i64 m.slo) := cell_of_block ZrW2.out 3 (by simp)
      have er4W2 : W2.cell? ⟨w.heap.size + 1 + 1, 4, none⟩ = some (.int .i64 m.shi) := cell_of_block ZrW2.out 4 (by simp)
      have lrW2 := (Array.getElem?_eq_some_iff.1 ZrW2.out).1
      have eo0W2 : W2.cell? ⟨w.heap.size + 1 + 1 + 1, 0, none⟩ = some (.int .i64 0) := cell_of_block ZoW2.out 0 (by simp)
      have fo0W2 := frozen_of_block ZoW2.out 0
      have eo1W2 : W2.cell? ⟨w.heap.size + 1 + 1 + 1, 1, none⟩ = some (.int .i64 0) := cell_of_block ZoW2.out 1 (by simp)
      have fo1W2 := frozen_of_block ZoW2.out 1
      have eo2W2 : W2.cell? ⟨w.heap.size + 1 + 1 + 1, 2, none⟩ = some (.int .i64 0) := cell_of_block ZoW2.out 2 (by simp)
      have fo2W2 := frozen_of_block ZoW2.out 2
      have eo3W2 : W2.cell? ⟨w.heap.size + 1 + 1 + 1, 3, none⟩ = some (.int .i64 0) := cell_of_block ZoW2.out 3 (by simp)
      have fo3W2 := frozen_of_block ZoW2.out 3
      have eo4W2 : W2.cell? ⟨w.heap.size + 1 + 1 + 1, 4, none⟩ = some (.int .i64 0) := cell_of_block ZoW2.out 4 (by simp)
      have fo4W2 := frozen_of_block ZoW2.out 4
      have loW2 := (Array.getElem?_eq_some_iff.1 ZoW2.out).1
      have ey0W2 : W2.cell? ⟨W1.heap.size + z1.bs.size, 0, none⟩ = some (.int .i64 y.day) := cell_of_block ZyW2.out 0 (by simp)
      have ey1W2 : W2.cell? ⟨W1.heap.size + z1.bs.size, 1, none⟩ = some (.int .i64 y.alo) := cell_of_block ZyW2.out 1 (by simp)
      have ey2W2 : W2.cell? ⟨W1.heap.size + z1.bs.size, 2, none⟩ = some (.int .i64 y.ahi) := cell_of_block ZyW2.out 2 (by simp)
      have ey3W2 : W2.cell? ⟨W1.heap.size + z1.bs.size, 3, none⟩ = some (.int .i64 y.wlo) := cell_of_block ZyW2.out 3 (by simp)
      have ey4W2 : W2.cell? ⟨W1.heap.size + z1.bs.size, 4, none⟩ = some (.int .i64 y.whi) := cell_of_block ZyW2.out 4 (by simp)
      have lyW2 := (Array.getElem?_eq_some_iff.1 ZyW2.out).1
      go_wp2_with fail
      refine wp_region_box1 [true, true, true, true, true, true, true, false, false, true] 7 8 #[.int .i64 0, .int .i64 0, .int .i64 0, .int .i64 0, .int .i64 0] #[.int .i64 (meetC y u).day, .int .i64 (meetC y u).alo, .int .i64 (meetC y u).ahi, .int .i64 (meetC y u).wlo, .int .i64 (meetC y u).whi] (by kernel_rfl) rfl rfl rfl (by kernel_rfl) rfl (by kernel_rfl) infoCont rfl rfl (by simp [Value.oneCell']) ?_
      apply Exists.intro
      refine ⟨fun S hS hx => ?_, ?_, ?_⟩
      · obtain ⟨x0, hx0⟩ := hx
        haveI : Nonempty (GrewS W2 S) := ⟨⟨x0, hx0⟩⟩
        simp only [pickM]
        repeat (go_big_quiet_step (first | (go_at_call 38; exact Calls.gwS hS (MS'.out _)) | (go_at_call 39; exact Calls.gwS hS (MT'.out _))))
        exact wpQuiet_nil rfl
      · rfl
      · intro B w5 hBw hblk hb5
        have zo := (hb5.block _ loW2).trans ZoW2.out
        have B5 := Lib.hid (thru hb5 HBW2.out)
        have HZ := Lib.hid zo
        have HK := Lib.hid hblk
        have s0 := cell_of_block hblk 0 (by simp)
        have p0 := cell_of_block zo 0 (by simp)
        have f0 := frozen_of_block zo 0
        have s1 := cell_of_block hblk 1 (by simp)
        have p1 := cell_of_block zo 1 (by simp)
        have f1 := frozen_of_block zo 1
        have s2 := cell_of_block hblk 2 (by simp)
        have p2 := cell_of_block zo 2 (by simp)
        have f2 := frozen_of_block zo 2
        have s3 := cell_of_block hblk 3 (by simp)
        have p3 := cell_of_block zo 3 (by simp)
        have f3 := frozen_of_block zo 3
        have s4 := cell_of_block hblk 4 (by simp)
        have p4 := cell_of_block zo 4 (by simp)
        have f4 := frozen_of_block zo 4
        simp at s0 s1 s2 s3 s4 p0 p1 p2 p3 p4
        clear zo hblk hb5 er0W2 er1W2 er2W2 er3W2 er4W2 eo0W2 eo1W2 eo2W2 eo3W2 eo4W2 ey0W2 ey1W2 ey2W2 ey3W2 ey4W2 fo0W2 fo1W2 fo2W2 fo3W2 fo4W2
        go_upto_region 5 with (fail)
        simp only [Act.put, List.setIfInBounds_toArray, List.set_cons_succ, List.set_cons_zero]
        go_wp2_with fail
        refine bodyPost_ret (v := .tuple #[.agg #[.int .i64 0, .int .i64 0, .int .i64 0, .int .i64 0, .int .i64 0], .int .i64 11]) (by simp [results, Tryz.results18, go_sem, *]) rfl ⟨rfl, ?_⟩
        exact (((((B5.out).setCell (by simp <;> omega) _).setCell (by simp <;> omega) _).setCell (by simp <;> omega) _).setCell (by simp <;> omega) _).setCell (by simp <;> omega) _
  · rw [show measF C x k F G m = _ from if_neg h, show measV C x k F G m = _ from if_neg h, zero_val]
    generalize measE C x k F G m = E at *
    generalize measA C x k F G m = y at *
    rw [show y.val = .agg #[.int .i64 y.day, .int .i64 y.alo, .int .i64 y.ahi, .int .i64 y.wlo, .int .i64 y.whi] from rfl] at AT
    have ne : (E != 0) = true := by simpa using h
    have AT' := Lib.hid AT; clear AT h
    go_enter Tryz.func18, Tryz.ntmps18
    go_wp2_with fail
    rw [HWc.out]
    go_wp2_with fail
    refine (Calls.grown (AT'.out)).mono ?_
    rintro e w1 ⟨rfl, z1, rfl⟩
    go_upto_region 2 with (fail)
    obtain ⟨W2, hW2⟩ : ∃ W2, ((gw W1 z1)).alloc (.cells #[.int .i64 y.day, .int .i64 y.alo, .int .i64 y.ahi, .int .i64 y.wlo, .int .i64 y.whi] 32) = W2 := ⟨_, rfl⟩
    have hbW2 : Below W1.heap.size W1 W2 := by rw [← hW2]; exact (below_gw W1 z1).alloc (by simp [gw_size]) _
    have ZrW2 := Lib.hid ((hbW2.block _ (Array.getElem?_eq_some_iff.1 Zc2.out).1).trans Zc2.out)
    have ZoW2 := Lib.hid ((hbW2.block _ (Array.getElem?_eq_some_iff.1 Zc3.out).1).trans Zc3.out)
    have zyW2 : W2.heap[W1.heap.size + z1.bs.size]? = some (.cells #[.int .i64 y.day, .int .i64 y.alo, .int .i64 y.ahi, .int .i64 y.wlo, .int .i64 y.whi] 32 (0, 0)) := by rw [← hW2]; exact alloc_at (by simp [gw_size])
    have ZyW2 := Lib.hid zyW2; clear zyW2
    have HBW2 := Lib.hid (thru hbW2 HBc.out)
    have SBW2 := Lib.hid hbW2; clear hbW2
    have HWW2 := Lib.hid hW2; clear hW2
    rw [HWW2.out]
    clear c00 c01 c02 c10 c11 c12 c13 c14 c20 c21 c22 c23 c24 c30 c31 c32 c33 c34 fc30 fc31 fc32 fc33 fc34
    have er0W2 : W2.cell? ⟨w.heap.size + 1 + 1, 0, none⟩ = some (.int .i64 m.day) := cell_of_block ZrW2.out 0 (by simp)
    have er1W2 : W2.cell? ⟨w.heap.size + 1 + 1, 1, none⟩ = some (.int .i64 m.vlo) := cell_of_block ZrW2.out 1 (by simp)
    have er2W2 : W2.cell? ⟨w.heap.size + 1 + 1, 2, none⟩ = some (.int .i64 m.vhi) := cell_of_block ZrW2.out 2 (by simp)
    have er3W2 : W2.cell? ⟨w.heap.size + 1 + 1, 3, none⟩ = some (.int .i64 m.slo) := cell_of_block ZrW2.out 3 (by simp)
    have er4W2 : W2.cell? ⟨w.heap.size + 1 + 1, 4, none⟩ = some (.int .i64 m.shi) := cell_of_block ZrW2.out 4 (by simp)
    have lrW2 := (Array.getElem?_eq_some_iff.1 ZrW2.out).1
    have eo0W2 : W2.cell? ⟨w.heap.size + 1 + 1 + 1, 0, none⟩ = some (.int .i64 0) := cell_of_block ZoW2.out 0 (by simp)
    have fo0W2 := frozen_of_block ZoW2.out 0
    have eo1W2 : W2.cell? ⟨w.heap.size + 1 + 1 + 1, 1, none⟩ = some (.int .i64 0) := cell_of_block ZoW2.out 1 (by simp)
    have fo1W2 := frozen_of_block ZoW2.out 1
    have eo2W2 : W2.cell? ⟨w.heap.size + 1 + 1 + 1, 2, none⟩ = some (.int .i64 0) := cell_of_block ZoW2.out 2 (by simp)
    have fo2W2 := frozen_of_block ZoW2.out 2
    have eo3W2 : W2.cell? ⟨w.heap.size + 1 + 1 + 1, 3, none⟩ = some (.int .i64 0) := cell_of_block ZoW2.out 3 (by simp)
    have fo3W2 := frozen_of_block ZoW2.out 3
    have eo4W2 : W2.cell? ⟨w.heap.size + 1 + 1 + 1, 4, none⟩ = some (.int .i64 0) := cell_of_block ZoW2.out 4 (by simp)
    have fo4W2 := frozen_of_block ZoW2.out 4
    have loW2 := (Array.getElem?_eq_some_iff.1 ZoW2.out).1
    have ey0W2 : W2.cell? ⟨W1.heap.size + z1.bs.size, 0, none⟩ = some (.int .i64 y.day) := cell_of_block ZyW2.out 0 (by simp)
    have ey1W2 : W2.cell? ⟨W1.heap.size + z1.bs.size, 1, none⟩ = some (.int .i64 y.alo) := cell_of_block ZyW2.out 1 (by simp)
    have ey2W2 : W2.cell? ⟨W1.heap.size + z1.bs.size, 2, none⟩ = some (.int .i64 y.ahi) := cell_of_block ZyW2.out 2 (by simp)
    have ey3W2 : W2.cell? ⟨W1.heap.size + z1.bs.size, 3, none⟩ = some (.int .i64 y.wlo) := cell_of_block ZyW2.out 3 (by simp)
    have ey4W2 : W2.cell? ⟨W1.heap.size + z1.bs.size, 4, none⟩ = some (.int .i64 y.whi) := cell_of_block ZyW2.out 4 (by simp)
    have lyW2 := (Array.getElem?_eq_some_iff.1 ZyW2.out).1
    go_wp2_with fail
    refine bodyPost_ret (v := .tuple #[.agg #[.int .i64 0, .int .i64 0, .int .i64 0, .int .i64 0, .int .i64 0], .int .i64 E]) (by simp [results, Tryz.results18, go_sem, *]) rfl ⟨rfl, ?_⟩
    exact (((((HBW2.out).setCell (by simp <;> omega) _).setCell (by simp <;> omega) _).setCell (by simp <;> omega) _).setCell (by simp <;> omega) _).setCell (by simp <;> omega) _
set_option maxRecDepth 100000 in
set_option maxHeartbeats 4000000 in
theorem Shows_any (C : Clim) (x : Cont) (aS : Option Addr) (k cS : Nat) (F G : Nat → Int) (m : Reg) (w : World) (hC : C.In w) (hf : C.Fits) (hk : k ≤ 9223372036854775807) (hS : SpansAt w aS k F G) :
    Calls Tryz.prog 17 #[.agg #[.int .i64 C.days, .slice C.aA C.nA C.cA, .slice C.aW C.nW C.cW], x.val, .slice aS k cS, m.val] w fun e w' => e = .returned (.tuple #[.int .i64 (showV C x k F G m), .int .i64 (measE C x k F G m)]) ∧ Below w.heap.size w w' := by
  rw [show x.val = .agg #[.int .i64 x.day, .int .i64 x.alo, .int .i64 x.ahi, .int .i64 x.wlo, .int .i64 x.whi] from rfl, show m.val = .agg #[.int .i64 m.day, .int .i64 m.vlo, .int .i64 m.vhi, .int .i64 m.slo, .int .i64 m.shi] from rfl]
  obtain ⟨W1, hW1⟩ : ∃ W1, ((w.alloc (.cells #[.int .i64 C.days, .slice C.aA C.nA C.cA, .slice C.aW C.nW C.cW] 30)).alloc (.cells #[.int .i64 x.day, .int .i64 x.alo, .int .i64 x.ahi, .int .i64 x.wlo, .int .i64 x.whi] 32)).alloc (.cells #[.int .i64 m.day, .int .i64 m.vlo, .int .i64 m.vhi, .int .i64 m.slo, .int .i64 m.shi] 58) = W1 := ⟨_, rfl⟩
  have hBc : Below w.heap.size w W1 := by rw [← hW1]; exact ((below_alloc _ _).alloc (by simp) _).alloc (by simp <;> omega) _
  have zc0 : W1.heap[w.heap.size]? = some (.cells #[.int .i64 C.days, .slice C.aA C.nA C.cA, .slice C.aW C.nW C.cW] 30 (0, 0)) := by rw [← hW1]; exact alloc_keep (alloc_keep (alloc_at rfl))
  have zc1 : W1.heap[w.heap.size + 1]? = some (.cells #[.int .i64 x.day, .int .i64 x.alo, .int .i64 x.ahi, .int .i64 x.wlo, .int .i64 x.whi] 32 (0, 0)) := by rw [← hW1]; exact alloc_keep (alloc_at (by simp))
  have zc2 : W1.heap[w.heap.size + 1 + 1]? = some (.cells #[.int .i64 m.day, .int .i64 m.vlo, .int .i64 m.vhi, .int .i64 m.slo, .int .i64 m.shi] 58 (0, 0)) := by rw [← hW1]; exact alloc_at (by simp <;> omega)
  have c00 : W1.cell? ⟨w.heap.size, 0, none⟩ = some (.int .i64 C.days) := cell_of_block zc0 0 (by simp)
  have c01 : W1.cell? ⟨w.heap.size, 1, none⟩ = some (.slice C.aA C.nA C.cA) := cell_of_block zc0 1 (by simp)
  have c02 : W1.cell? ⟨w.heap.size, 2, none⟩ = some (.slice C.aW C.nW C.cW) := cell_of_block zc0 2 (by simp)
  have c10 : W1.cell? ⟨w.heap.size + 1, 0, none⟩ = some (.int .i64 x.day) := cell_of_block zc1 0 (by simp)
  have c11 : W1.cell? ⟨w.heap.size + 1, 1, none⟩ = some (.int .i64 x.alo) := cell_of_block zc1 1 (by simp)
  have c12 : W1.cell? ⟨w.heap.size + 1, 2, none⟩ = some (.int .i64 x.ahi) := cell_of_block zc1 2 (by simp)
  have c13 : W1.cell? ⟨w.heap.size + 1, 3, none⟩ = some (.int .i64 x.wlo) := cell_of_block zc1 3 (by simp)
  have c14 : W1.cell? ⟨w.heap.size + 1, 4, none⟩ = some (.int .i64 x.whi) := cell_of_block zc1 4 (by simp)
  have c20 : W1.cell? ⟨w.heap.size + 1 + 1, 0, none⟩ = some (.int .i64 m.day) := cell_of_block zc2 0 (by simp)
  have c21 : W1.cell? ⟨w.heap.size + 1 + 1, 1, none⟩ = some (.int .i64 m.vlo) := cell_of_block zc2 1 (by simp)
  have c22 : W1.cell? ⟨w.heap.size + 1 + 1, 2, none⟩ = some (.int .i64 m.vhi) := cell_of_block zc2 2 (by simp)
  have c23 : W1.cell? ⟨w.heap.size + 1 + 1, 3, none⟩ = some (.int .i64 m.slo) := cell_of_block zc2 3 (by simp)
  have c24 : W1.cell? ⟨w.heap.size + 1 + 1, 4, none⟩ = some (.int .i64 m.shi) := cell_of_block zc2 4 (by simp)
  have lc0 := (Array.getElem?_eq_some_iff.1 zc0).1
  have lc1 := (Array.getElem?_eq_some_iff.1 zc1).1
  have lc2 := (Array.getElem?_eq_some_iff.1 zc2).1
  have Zc0 := Lib.hid zc0
  have Zc1 := Lib.hid zc1
  have Zc2 := Lib.hid zc2
  clear zc0 zc1 zc2
  have HBc := Lib.hid hBc; clear hBc
  have HWc := Lib.hid hW1; clear hW1
  have AT := atm_any C x aS k cS F G m W1 (hC.below HBc.out) hf hk (hS.below HBc.out)
  clear hC hS
  rw [show m.val = .agg #[.int .i64 m.day, .int .i64 m.vlo, .int .i64 m.vhi, .int .i64 m.slo, .int .i64 m.shi] from rfl, show x.val = .agg #[.int .i64 x.day, .int .i64 x.alo, .int .i64 x.ahi, .int .i64 x.wlo, .int .i64 x.whi] from rfl] at AT
  by_cases h : measE C x k F G m = 0
  · obtain ⟨hm, h2, h3⟩ := measE_zero h
    have MS := fun W => measured_any m W hm
    have SH := fun W => shows_any (measA C x k F G m) (measC m) W (by rw [h3]; exact (atV_cont h2).1) (measC_ok hm)
    rw [show showV C x k F G m = _ from if_pos h, h]
    rw [h] at AT
    clear h2 h3 h
    generalize showsN (measA C x k F G m) (measC m) = n at *
    generalize measA C x k F G m = y at *
    generalize measC m = u at *
    rw [show m.val = .agg #[.int .i64 m.day, .int .i64 m.vlo, .int .i64 m.vhi, .int .i64 m.slo, .int .i64 m.shi] from rfl] at MS
    rw [show y.val = .agg #[.int .i64 y.day, .int .i64 y.alo, .int .i64 y.ahi, .int .i64 y.wlo, .int .i64 y.whi] from rfl] at AT SH
    rw [show u.val = .agg #[.int .i64 u.day, .int .i64 u.alo, .int .i64 u.ahi, .int .i64 u.wlo, .int .i64 u.whi] from rfl] at MS SH
    have AT' := Lib.hid AT; clear AT
    have MS' := Lib.hid MS; clear MS
    have SH' := Lib.hid SH; clear SH
    go_enter Tryz.func17, Tryz.ntmps17
    go_wp2_with fail
    rw [HWc.out]
    go_wp2_with fail
    refine (Calls.grown (AT'.out)).mono ?_
    rintro e w1 ⟨rfl, z1, rfl⟩
    go_upto_region 2 with (fail)
    obtain ⟨W2, hW2⟩ : ∃ W2, ((gw W1 z1)).alloc (.cells #[.int .i64 y.day, .int .i64 y.alo, .int .i64 y.ahi, .int .i64 y.wlo, .int .i64 y.whi] 32) = W2 := ⟨_, rfl⟩
    have hbW2 : Below W1.heap.size W1 W2 := by rw [← hW2]; exact (below_gw W1 z1).alloc (by simp [gw_size]) _
    have ZrW2 := Lib.hid ((hbW2.block _ (Array.getElem?_eq_some_iff.1 Zc2.out).1).trans Zc2.out)
    have zyW2 : W2.heap[W1.heap.size + z1.bs.size]? = some (.cells #[.int .i64 y.day, .int .i64 y.alo, .int .i64 y.ahi, .int .i64 y.wlo, .int .i64 y.whi] 32 (0, 0)) := by rw [← hW2]; exact alloc_at (by simp [gw_size])
    have ZyW2 := Lib.hid zyW2; clear zyW2
    have HBW2 := Lib.hid (thru hbW2 HBc.out)
    have SBW2 := Lib.hid hbW2; clear hbW2
    have HWW2 := Lib.hid hW2; clear hW2
    rw [HWW2.out]
    clear c00 c01 c02 c10 c11 c12 c13 c14 c20 c21 c22 c23 c24
    have er0W2 : W2.cell? ⟨w.heap.size + 1 + 1, 0, none⟩ = some (.int .i64 m.day) := cell_of_block ZrW2.out 0 (by simp)
    have er1W2 : W2.cell? ⟨w.heap.size + 1 + 1, 1, none⟩ = some (.int .i64 m.vlo) := cell_of_block ZrW2.out 1 (by simp)
    have er2W2 : W2.cell? ⟨w.heap.size + 1 + 1, 2, none⟩ = some (.int .i64 m.vhi) := cell_of_block ZrW2.out 2 (by simp)
    have er3W2 : W2.cell? ⟨w.heap.size + 1 + 1, 3, none⟩ = some (.int .i64 m.slo) := cell_of_block ZrW2.out 3 (by simp)
    have er4W2 : W2.cell? ⟨w.heap.size + 1 + 1, 4, none⟩ = some (.int .i64 m.shi) := cell_of_block ZrW2.out 4 (by simp)
    have lrW2 := (Array.getElem?_eq_some_iff.1 ZrW2.out).1
    have ey0W2 : W2.cell? ⟨W1.heap.size + z1.bs.size, 0, none⟩ = some (.int .i64 y.day) := cell_of_block ZyW2.out 0 (by simp)
    have ey1W2 : W2.cell? ⟨W1.heap.size + z1.bs.size, 1, none⟩ = some (.int .i64 y.alo) := cell_of_block ZyW2.out 1 (by simp)
    have ey2W2 : W2.cell? ⟨W1.heap.size + z1.bs.size, 2, none⟩ = some (.int .i64 y.ahi) := cell_of_block ZyW2.out 2 (by simp)
    have ey3W2 : W2.cell? ⟨W1.heap.size + z1.bs.size, 3, none⟩ = some (.int .i64 y.wlo) := cell_of_block ZyW2.out 3 (by simp)
    have ey4W2 : W2.cell? ⟨W1.heap.size + z1.bs.size, 4, none⟩ = some (.int .i64 y.whi) := cell_of_block ZyW2.out 4 (by simp)
    have lyW2 := (Array.getElem?_eq_some_iff.1 ZyW2.out).1
    go_wp2_with fail
    refine wp_region_gw (by kernel_rfl) (by kernel_rfl) ?_
    repeat (go_big_quiet_step (first | (go_at_call 38; exact Calls.gw_of (MS'.out _)) | (go_at_call 37; exact Calls.gw_of (SH'.out _))))
    refine wpQuiet_nil ?_
    rintro _ ⟨z9, rfl⟩
    go_wp2_with fail
    go_ret2
    exact ⟨rfl, HBW2.out.gw z9⟩
  · rw [show showV C x k F G m = _ from if_neg h]
    generalize measE C x k F G m = E at *
    generalize measA C x k F G m = y at *
    rw [show y.val = .agg #[.int .i64 y.day, .int .i64 y.alo, .int .i64 y.ahi, .int .i64 y.wlo, .int .i64 y.whi] from rfl] at AT
    have ne : (E != 0) = true := by simpa using h
    have AT' := Lib.hid AT; clear AT h
    go_enter Tryz.func17, Tryz.ntmps17
    go_wp2_with fail
    rw [HWc.out]
    go_wp2_with fail
    refine (Calls.grown (AT'.out)).mono ?_
    rintro e w1 ⟨rfl, z1, rfl⟩
    go_upto_region 2 with (fail)
    obtain ⟨W2, hW2⟩ : ∃ W2, ((gw W1 z1)).alloc (.cells #[.int .i64 y.day, .int .i64 y.alo, .int .i64 y.ahi, .int .i64 y.wlo, .int .i64 y.whi] 32) = W2 := ⟨_, rfl⟩
    have hbW2 : Below W1.heap.size W1 W2 := by rw [← hW2]; exact (below_gw W1 z1).alloc (by simp [gw_size]) _
    have ZrW2 := Lib.hid ((hbW2.block _ (Array.getElem?_eq_some_iff.1 Zc2.out).1).trans Zc2.out)
    have zyW2 : W2.heap[W1.heap.size + z1.bs.size]? = some (.cells #[.int .i64 y.day, .int .i64 y.alo, .int .i64 y.ahi, .int .i64 y.wlo, .int .i64 y.whi] 32 (0, 0)) := by rw [← hW2]; exact alloc_at (by simp [gw_size])
    have ZyW2 := Lib.hid zyW2; clear zyW2
    have HBW2 := Lib.hid (thru hbW2 HBc.out)
    have SBW2 := Lib.hid hbW2; clear hbW2
    have HWW2 := Lib.hid hW2; clear hW2
    rw [HWW2.out]
    clear c00 c01 c02 c10 c11 c12 c13 c14 c20 c21 c22 c23 c24
    have er0W2 : W2.cell? ⟨w.heap.size + 1 + 1, 0, none⟩ = some (.int .i64 m.day) := cell_of_block ZrW2.out 0 (by simp)
    have er1W2 : W2.cell? ⟨w.heap.size + 1 + 1, 1, none⟩ = some (.int .i64 m.vlo) := cell_of_block ZrW2.out 1 (by simp)
    have er2W2 : W2.cell? ⟨w.heap.size + 1 + 1, 2, none⟩ = some (.int .i64 m.vhi) := cell_of_block ZrW2.out 2 (by simp)
    have er3W2 : W2.cell? ⟨w.heap.size + 1 + 1, 3, none⟩ = some (.int .i64 m.slo) := cell_of_block ZrW2.out 3 (by simp)
    have er4W2 : W2.cell? ⟨w.heap.size + 1 + 1, 4, none⟩ = some (.int .i64 m.shi) := cell_of_block ZrW2.out 4 (by simp)
    have lrW2 := (Array.getElem?_eq_some_iff.1 ZrW2.out).1
    have ey0W2 : W2.cell? ⟨W1.heap.size + z1.bs.size, 0, none⟩ = some (.int .i64 y.day) := cell_of_block ZyW2.out 0 (by simp)
    have ey1W2 : W2.cell? ⟨W1.heap.size + z1.bs.size, 1, none⟩ = some (.int .i64 y.alo) := cell_of_block ZyW2.out 1 (by simp)
    have ey2W2 : W2.cell? ⟨W1.heap.size + z1.bs.size, 2, none⟩ = some (.int .i64 y.ahi) := cell_of_block ZyW2.out 2 (by simp)
    have ey3W2 : W2.cell? ⟨W1.heap.size + z1.bs.size, 3, none⟩ = some (.int .i64 y.wlo) := cell_of_block ZyW2.out 3 (by simp)
    have ey4W2 : W2.cell? ⟨W1.heap.size + z1.bs.size, 4, none⟩ = some (.int .i64 y.whi) := cell_of_block ZyW2.out 4 (by simp)
    have lyW2 := (Array.getElem?_eq_some_iff.1 ZyW2.out).1
    go_wp2_with fail
    go_ret2
    exact ⟨rfl, HBW2.out⟩
end Go.Proofs.YtjgnafhbeekebaaGreat.L7
