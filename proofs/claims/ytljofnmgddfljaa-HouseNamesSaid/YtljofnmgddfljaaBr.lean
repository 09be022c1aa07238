/- Contracts of the reference's At; At's errors. No conditions beyond each theorem's own. -/
import Derived.Test.YtljofnmgddfljaaBq
set_option linter.unusedVariables false
set_option linter.unusedSimpArgs false
set_option linter.unusedSectionVars false
set_option linter.constructorNameAsVariable false
namespace Go.Proofs.Ytljofnmgddfljaa
open Go.RowKit

attribute [local go_sem] gw_cell gw_frozen gw_size

def zeroCont : Cont := ⟨0, 0, 0, 0, 0⟩
theorem errH_zero {C : Clim} {x : Cont} {k : Nat} {F G : Nat → Int} {day : Int} (h : errH C x k F G day = 0) :
    climB C = true ∧ contB x = true ∧ staysB C.nA k F G = true ∧ x.day ≤ day ∧ day ≤ 65536 ∧ (x.day < day → F 0 ≤ x.day) := by
  unfold errH at h
  split at h
  · rename_i h1
    split at h
    · rename_i h2
      have := inB_t.1 h2
      split at h
      · omega
      · split at h
        · omega
        · exact ⟨h1.1, h1.2.1, h1.2.2, by omega, by omega, fun _ => by omega⟩
    · omega
  · omega

set_option maxRecDepth 100000 in
set_option maxHeartbeats 1000000 in
theorem rAt_err (C : Clim) (x : Cont) (aS : Option Addr) (k cS : Nat) (F G : Nat → Int) (day : Int) (w : World) (hC : C.In w) (hf : C.Fits) (hk : k ≤ 9223372036854775807) (hS : SpansAt w aS k F G) {E : Int} (hE : errH C x k F G day = E) (h0 : E ≠ 0) :
    Calls Try.prog 36 #[.agg #[.int .i64 C.days, .slice C.aA C.nA C.cA, .slice C.aW C.nW C.cW], x.val, .slice aS k cS, .int .i64 day] w fun e w' => e = .returned (.tuple #[zeroCont.val, .int .i64 E]) ∧ Below w.heap.size w w' := by
  unfold Cont.val zeroCont
  obtain ⟨W1, hW1⟩ : ∃ W1, ((w.alloc (.cells #[.int .i64 C.days, .slice C.aA C.nA C.cA, .slice C.aW C.nW C.cW] 24)).alloc (.cells #[.int .i64 x.day, .int .i64 x.alo, .int .i64 x.ahi, .int .i64 x.wlo, .int .i64 x.whi] 28)).alloc (.cells #[.int .i64 0, .int .i64 0, .int .i64 0, .int .i64 0, .int .i64 0] 28) = W1 := ⟨_, rfl⟩
  have hBc : Below w.heap.size w W1 := by rw [← hW1]; exact ((below_alloc _ _).alloc (by simp) _).alloc (by simp <;> omega) _
  have zc0 : W1.heap[w.heap.size]? = some (.cells #[.int .i64 C.days, .slice C.aA C.nA C.cA, .slice C.aW C.nW C.cW] 24 (0, 0)) := by rw [← hW1]; exact alloc_keep (alloc_keep (alloc_at rfl))
  have zc1 : W1.heap[w.heap.size + 1]? = some (.cells #[.int .i64 x.day, .int .i64 x.alo, .int .i64 x.ahi, .int .i64 x.wlo, .int .i64 x.whi] 28 (0, 0)) := by rw [← hW1]; exact alloc_keep (alloc_at (by simp))
  have zc2 : W1.heap[w.heap.size + 1 + 1]? = some (.cells #[.int .i64 0, .int .i64 0, .int .i64 0, .int .i64 0, .int .i64 0] 28 (0, 0)) := by rw [← hW1]; exact alloc_at (by simp <;> omega)
  have c00 : W1.cell? ⟨w.heap.size, 0, none⟩ = some (.int .i64 C.days) := cell_of_block zc0 0 (by simp)
  have c01 : W1.cell? ⟨w.heap.size, 1, none⟩ = some (.slice C.aA C.nA C.cA) := cell_of_block zc0 1 (by simp)
  have c02 : W1.cell? ⟨w.heap.size, 2, none⟩ = some (.slice C.aW C.nW C.cW) := cell_of_block zc0 2 (by simp)
  have c10 : W1.cell? ⟨w.heap.size + 1, 0, none⟩ = some (.int .i64 x.day) := cell_of_block zc1 0 (by simp)
  have c11 : W1.cell? ⟨w.heap.size + 1, 1, none⟩ = some (.int .i64 x.alo) := cell_of_block zc1 1 (by simp)
  have c12 : W1.cell? ⟨w.heap.size + 1, 2, none⟩ = some (.int .i64 x.ahi) := cell_of_block zc1 2 (by simp)
  have c13 : W1.cell? ⟨w.heap.size + 1, 3, none⟩ = some (.int .i64 x.wlo) := cell_of_block zc1 3 (by simp)
  have c14 : W1.cell? ⟨w.heap.size + 1, 4, none⟩ = some (.int .i64 x.whi) := cell_of_block zc1 4 (by simp)
  have c20 : W1.cell? ⟨w.heap.size + 1 + 1, 0, none⟩ = some (.int .i64 0) := cell_of_block zc2 0 (by simp)
  have c21 : W1.cell? ⟨w.heap.size + 1 + 1, 1, none⟩ = some (.int .i64 0) := cell_of_block zc2 1 (by simp)
  have c22 : W1.cell? ⟨w.heap.size + 1 + 1, 2, none⟩ = some (.int .i64 0) := cell_of_block zc2 2 (by simp)
  have c23 : W1.cell? ⟨w.heap.size + 1 + 1, 3, none⟩ = some (.int .i64 0) := cell_of_block zc2 3 (by simp)
  have c24 : W1.cell? ⟨w.heap.size + 1 + 1, 4, none⟩ = some (.int .i64 0) := cell_of_block zc2 4 (by simp)
  have lc0 := (Array.getElem?_eq_some_iff.1 zc0).1
  have lc1 := (Array.getElem?_eq_some_iff.1 zc1).1
  have lc2 := (Array.getElem?_eq_some_iff.1 zc2).1
  have fc20 := frozen_of_block zc2 0
  have fc21 := frozen_of_block zc2 1
  have fc22 := frozen_of_block zc2 2
  have fc23 := frozen_of_block zc2 3
  have fc24 := frozen_of_block zc2 4
  have Zc0 := Lib.hid zc0
  have Zc1 := Lib.hid zc1
  have Zc2 := Lib.hid zc2
  clear zc0 zc1 zc2
  have HBc := Lib.hid hBc; clear hBc
  have HWc := Lib.hid hW1; clear hW1
  have HC := Lib.hid (hC.below HBc.out); clear hC
  have HS := Lib.hid (hS.below HBc.out); clear hS
  have ER := rerrors_any C x aS k cS F G day W1 HC.out hf hk HS.out
  rw [hE] at ER
  clear hE
  have ER' := Lib.hid ER; clear ER
  go_enter Try.func36, Try.ntmps36
  go_wp2_with fail
  rw [HWc.out]
  go_wp2_with fail
  refine (Calls.grown ER'.out).mono ?_
  rintro e w1 ⟨rfl, z, rfl⟩
  go_wp2_with fail
  refine bodyPost_ret (v := .tuple #[.agg #[.int .i64 0, .int .i64 0, .int .i64 0, .int .i64 0, .int .i64 0], .int .i64 E]) (by simp [results, Try.results36, go_sem, *]) rfl ⟨rfl, ?_⟩
  exact (((((HBc.out.gw z).setCell (by simp <;> omega) _).setCell (by simp <;> omega) _).setCell (by simp <;> omega) _).setCell (by simp <;> omega) _).setCell (by simp <;> omega) _

set_option maxRecDepth 100000 in
set_option maxHeartbeats 1000000 in
theorem At_err (C : Clim) (x : Cont) (aS : Option Addr) (k cS : Nat) (F G : Nat → Int) (day : Int) (w : World) (hC : C.In w) (hf : C.Fits) (hk : k ≤ 9223372036854775807) (hS : SpansAt w aS k F G) {E : Int} (hE : errH C x k F G day = E) (h0 : E ≠ 0) :
    Calls Try.prog 17 #[.agg #[.int .i64 C.days, .slice C.aA C.nA C.cA, .slice C.aW C.nW C.cW], x.val, .slice aS k cS, .int .i64 day] w fun e w' => e = .returned (.tuple #[zeroCont.val, .int .i64 E]) ∧ Below w.heap.size w w' := by
  unfold Cont.val zeroCont
  obtain ⟨W1, hW1⟩ : ∃ W1, ((w.alloc (.cells #[.int .i64 C.days, .slice C.aA C.nA C.cA, .slice C.aW C.nW C.cW] 24)).alloc (.cells #[.int .i64 x.day, .int .i64 x.alo, .int .i64 x.ahi, .int .i64 x.wlo, .int .i64 x.whi] 28)).alloc (.cells #[.int .i64 0, .int .i64 0, .int .i64 0, .int .i64 0, .int .i64 0] 28) = W1 := ⟨_, rfl⟩
  have hBc : Below w.heap.size w W1 := by rw [← hW1]; exact ((below_alloc _ _).alloc (by simp) _).alloc (by simp <;> omega) _
  have zc0 : W1.heap[w.heap.size]? = some (.cells #[.int .i64 C.days, .slice C.aA C.nA C.cA, .slice C.aW C.nW C.cW] 24 (0, 0)) := by rw [← hW1]; exact alloc_keep (alloc_keep (alloc_at rfl))
  have zc1 : W1.heap[w.heap.size + 1]? = some (.cells #[.int .i64 x.day, .int .i64 x.alo, .int .i64 x.ahi, .int .i64 x.wlo, .int .i64 x.whi] 28 (0, 0)) := by rw [← hW1]; exact alloc_keep (alloc_at (by simp))
  have zc2 : W1.heap[w.heap.size + 1 + 1]? = some (.cells #[.int .i64 0, .int .i64 0, .int .i64 0, .int .i64 0, .int .i64 0] 28 (0, 0)) := by rw [← hW1]; exact alloc_at (by simp <;> omega)
  have c00 : W1.cell? ⟨w.heap.size, 0, none⟩ = some (.int .i64 C.days) := cell_of_block zc0 0 (by simp)
  have c01 : W1.cell? ⟨w.heap.size, 1, none⟩ = some (.slice C.aA C.nA C.cA) := cell_of_block zc0 1 (by simp)
  have c02 : W1.cell? ⟨w.heap.size, 2, none⟩ = some (.slice C.aW C.nW C.cW) := cell_of_block zc0 2 (by simp)
  have c10 : W1.cell? ⟨w.heap.size + 1, 0, none⟩ = some (.int .i64 x.day) := cell_of_block zc1 0 (by simp)
  have c11 : W1.cell? ⟨w.heap.size + 1, 1, none⟩ = some (.int .i64 x.alo) := cell_of_block zc1 1 (by simp)
  have c12 : W1.cell? ⟨w.heap.size + 1, 2, none⟩ = some (.int .i64 x.ahi) := cell_of_block zc1 2 (by simp)
  have c13 : W1.cell? ⟨w.heap.size + 1, 3, none⟩ = some (.int .i64 x.wlo) := cell_of_block zc1 3 (by simp)
  have c14 : W1.cell? ⟨w.heap.size + 1, 4, none⟩ = some (.int .i64 x.whi) := cell_of_block zc1 4 (by simp)
  have c20 : W1.cell? ⟨w.heap.size + 1 + 1, 0, none⟩ = some (.int .i64 0) := cell_of_block zc2 0 (by simp)
  have c21 : W1.cell? ⟨w.heap.size + 1 + 1, 1, none⟩ = some (.int .i64 0) := cell_of_block zc2 1 (by simp)
  have c22 : W1.cell? ⟨w.heap.size + 1 + 1, 2, none⟩ = some (.int .i64 0) := cell_of_block zc2 2 (by simp)
  have c23 : W1.cell? ⟨w.heap.size + 1 + 1, 3, none⟩ = some (.int .i64 0) := cell_of_block zc2 3 (by simp)
  have c24 : W1.cell? ⟨w.heap.size + 1 + 1, 4, none⟩ = some (.int .i64 0) := cell_of_block zc2 4 (by simp)
  have lc0 := (Array.getElem?_eq_some_iff.1 zc0).1
  have lc1 := (Array.getElem?_eq_some_iff.1 zc1).1
  have lc2 := (Array.getElem?_eq_some_iff.1 zc2).1
  have fc20 := frozen_of_block zc2 0
  have fc21 := frozen_of_block zc2 1
  have fc22 := frozen_of_block zc2 2
  have fc23 := frozen_of_block zc2 3
  have fc24 := frozen_of_block zc2 4
  have Zc0 := Lib.hid zc0
  have Zc1 := Lib.hid zc1
  have Zc2 := Lib.hid zc2
  clear zc0 zc1 zc2
  have HBc := Lib.hid hBc; clear hBc
  have HWc := Lib.hid hW1; clear hW1
  have HC := Lib.hid (hC.below HBc.out); clear hC
  have HS := Lib.hid (hS.below HBc.out); clear hS
  have ER := errorOf_any C x aS k cS F G day W1 HC.out hf hk HS.out
  rw [hE] at ER
  clear hE
  have ER' := Lib.hid ER; clear ER
  go_enter Try.func17, Try.ntmps17
  go_wp2_with fail
  rw [HWc.out]
  go_wp2_with fail
  refine (Calls.grown ER'.out).mono ?_
  rintro e w1 ⟨rfl, z, rfl⟩
  go_wp2_with fail
  refine bodyPost_ret (v := .tuple #[.agg #[.int .i64 0, .int .i64 0, .int .i64 0, .int .i64 0, .int .i64 0], .int .i64 E]) (by simp [results, Try.results17, go_sem, *]) rfl ⟨rfl, ?_⟩
  exact (((((HBc.out.gw z).setCell (by simp <;> omega) _).setCell (by simp <;> omega) _).setCell (by simp <;> omega) _).setCell (by simp <;> omega) _).setCell (by simp <;> omega) _

set_option maxRecDepth 100000 in
set_option maxHeartbeats 4000000 in
theorem rAt_ok (C : Clim) (x : Cont) (aS : Option Addr) (k cS : Nat) (F G : Nat → Int) (day : Int) (w : World) (hC : C.In w) (hf : C.Fits) (hk : k ≤ 9223372036854775807) (hS : SpansAt w aS k F G) (hE : errH C x k F G day = 0) :
    Calls Try.prog 36 #[.agg #[.int .i64 C.days, .slice C.aA C.nA C.cA, .slice C.aW C.nW C.cW], x.val, .slice aS k cS, .int .i64 day] w fun e w' => e = .returned (.tuple #[(dayC C F G k x (day - x.day).toNat).val, .int .i64 0]) ∧ Below w.heap.size w w' := by
  obtain ⟨g1, g2, g3, g4, g5, g6⟩ := errH_zero hE
  obtain ⟨m, hm⟩ : ∃ m : Nat, (day - x.day).toNat = m := ⟨_, rfl⟩
  rw [hm]
  have hmd : x.day + m = day := by omega
  clear hm
  rw [show x.val = .agg #[.int .i64 x.day, .int .i64 x.alo, .int .i64 x.ahi, .int .i64 x.wlo, .int .i64 x.whi] from rfl]
  obtain ⟨W1, hW1⟩ : ∃ W1, ((w.alloc (.cells #[.int .i64 C.days, .slice C.aA C.nA C.cA, .slice C.aW C.nW C.cW] 24)).alloc (.cells #[.int .i64 x.day, .int .i64 x.alo, .int .i64 x.ahi, .int .i64 x.wlo, .int .i64 x.whi] 28)).alloc (.cells #[.int .i64 0, .int .i64 0, .int .i64 0, .int .i64 0, .int .i64 0] 28) = W1 := ⟨_, rfl⟩
  have hBc : Below w.heap.size w W1 := by rw [← hW1]; exact ((below_alloc _ _).alloc (by simp) _).alloc (by simp <;> omega) _
  have zc0 : W1.heap[w.heap.size]? = some (.cells #[.int .i64 C.days, .slice C.aA C.nA C.cA, .slice C.aW C.nW C.cW] 24 (0, 0)) := by rw [← hW1]; exact alloc_keep (alloc_keep (alloc_at rfl))
  have zc1 : W1.heap[w.heap.size + 1]? = some (.cells #[.int .i64 x.day, .int .i64 x.alo, .int .i64 x.ahi, .int .i64 x.wlo, .int .i64 x.whi] 28 (0, 0)) := by rw [← hW1]; exact alloc_keep (alloc_at (by simp))
  have zc2 : W1.heap[w.heap.size + 1 + 1]? = some (.cells #[.int .i64 0, .int .i64 0, .int .i64 0, .int .i64 0, .int .i64 0] 28 (0, 0)) := by rw [← hW1]; exact alloc_at (by simp <;> omega)
  have c00 : W1.cell? ⟨w.heap.size, 0, none⟩ = some (.int .i64 C.days) := cell_of_block zc0 0 (by simp)
  have c01 : W1.cell? ⟨w.heap.size, 1, none⟩ = some (.slice C.aA C.nA C.cA) := cell_of_block zc0 1 (by simp)
  have c02 : W1.cell? ⟨w.heap.size, 2, none⟩ = some (.slice C.aW C.nW C.cW) := cell_of_block zc0 2 (by simp)
  have c10 : W1.cell? ⟨w.heap.size + 1, 0, none⟩ = some (.int .i64 x.day) := cell_of_block zc1 0 (by simp)
  have c11 : W1.cell? ⟨w.heap.size + 1, 1, none⟩ = some (.int .i64 x.alo) := cell_of_block zc1 1 (by simp)
  have c12 : W1.cell? ⟨w.heap.size + 1, 2, none⟩ = some (.int .i64 x.ahi) := cell_of_block zc1 2 (by simp)
  have c13 : W1.cell? ⟨w.heap.size + 1, 3, none⟩ = some (.int .i64 x.wlo) := cell_of_block zc1 3 (by simp)
  have c14 : W1.cell? ⟨w.heap.size + 1, 4, none⟩ = some (.int .i64 x.whi) := cell_of_block zc1 4 (by simp)
  have c20 : W1.cell? ⟨w.heap.size + 1 + 1, 0, none⟩ = some (.int .i64 0) := cell_of_block zc2 0 (by simp)
  have c21 : W1.cell? ⟨w.heap.size + 1 + 1, 1, none⟩ = some (.int .i64 0) := cell_of_block zc2 1 (by simp)
  have c22 : W1.cell? ⟨w.heap.size + 1 + 1, 2, none⟩ = some (.int .i64 0) := cell_of_block zc2 2 (by simp)
  have c23 : W1.cell? ⟨w.heap.size + 1 + 1, 3, none⟩ = some (.int .i64 0) := cell_of_block zc2 3 (by simp)
  have c24 : W1.cell? ⟨w.heap.size + 1 + 1, 4, none⟩ = some (.int .i64 0) := cell_of_block zc2 4 (by simp)
  have lc0 := (Array.getElem?_eq_some_iff.1 zc0).1
  have lc1 := (Array.getElem?_eq_some_iff.1 zc1).1
  have lc2 := (Array.getElem?_eq_some_iff.1 zc2).1
  have fc20 := frozen_of_block zc2 0
  have fc21 := frozen_of_block zc2 1
  have fc22 := frozen_of_block zc2 2
  have fc23 := frozen_of_block zc2 3
  have fc24 := frozen_of_block zc2 4
  have Zc0 := Lib.hid zc0
  have Zc1 := Lib.hid zc1
  have Zc2 := Lib.hid zc2
  clear zc0 zc1 zc2
  have HBc := Lib.hid hBc; clear hBc
  have HWc := Lib.hid hW1; clear hW1
  have HC := Lib.hid (hC.below HBc.out)
  have HS := Lib.hid (hS.below HBc.out)
  have HCW := Lib.hid hC; clear hC
  have HSW := Lib.hid hS; clear hS
  have ER := rerrors_any C x aS k cS F G day W1 HC.out hf hk HS.out
  rw [hE] at ER
  clear hE
  have ER' := Lib.hid ER; clear ER
  have FM := Lib.hid g6; clear g6
  have MD := Lib.hid hmd; clear hmd
  have DC := Lib.hid (dayC_ok g1 g3 g2); clear g4
  go_enter Try.func36, Try.ntmps36
  go_wp2_with fail
  rw [HWc.out]
  go_wp2_with fail
  refine (Calls.grown ER'.out).mono ?_
  rintro e w1 ⟨rfl, z, rfl⟩
  go_wp2_with fail
  have K0 := Lib.hid (((below_gw W1 z).block _ lc0).trans Zc0.out)
  have K1 := Lib.hid (((below_gw W1 z).block _ lc1).trans Zc1.out)
  have K2 := Lib.hid (((below_gw W1 z).block _ lc2).trans Zc2.out)
  have BW := Lib.hid (HBc.out.gw z)
  clear c00 c01 c02 c10 c11 c12 c13 c14 c20 c21 c22 c23 c24 fc20 fc21 fc22 fc23 fc24 lc0 lc1 lc2
  go_loopw [20] (fun _ wr => ∃ j : Nat, j ≤ m ∧ wr.heap[w.heap.size]? = some (.cells #[.int .i64 C.days, .slice C.aA C.nA C.cA, .slice C.aW C.nW C.cW] 24 (0, 0)) ∧ wr.heap[w.heap.size + 1]? = some (.cells (dayC C F G k x j).cells 28 (0, 0)) ∧ wr.heap[w.heap.size + 1 + 1]? = some (.cells #[.int .i64 0, .int .i64 0, .int .i64 0, .int .i64 0, .int .i64 0] 28 (0, 0)) ∧ Below w.heap.size w wr)
    (fun _ wr => (day - intOf ((wr.cell? ⟨w.heap.size + 1, 0, none⟩).getD undef)).toNat)
  case atStart => exact ⟨0, Nat.zero_le _, K0.out, K1.out, K2.out, BW.out⟩
  case round =>
    obtain ⟨j, hj, h0, h1, h2, hb⟩ := hrel
    obtain ⟨oy, ey⟩ := DC.out j (by have := MD.out; omega)
    have EN := Lib.hid (show dayC C F G k x (j + 1) = (dayC C F G k x j).next C F G k from rfl)
    obtain ⟨y, hyy⟩ : ∃ y, dayC C F G k x j = y := ⟨_, rfl⟩
    rw [hyy] at oy ey h1 EN
    have DL : j < m ↔ y.day < day := by have := MD.out; omega
    have a0 := cell_of_block h0 0 (by simp)
    have a1 := cell_of_block h0 1 (by simp)
    have a2 := cell_of_block h0 2 (by simp)
    have b0 : wr.cell? ⟨w.heap.size + 1, 0, none⟩ = some (.int .i64 y.day) := cell_of_block h1 0 (by simp [Cont.cells])
    have b1 : wr.cell? ⟨w.heap.size + 1, 1, none⟩ = some (.int .i64 y.alo) := cell_of_block h1 1 (by simp [Cont.cells])
    have b2 : wr.cell? ⟨w.heap.size + 1, 2, none⟩ = some (.int .i64 y.ahi) := cell_of_block h1 2 (by simp [Cont.cells])
    have b3 : wr.cell? ⟨w.heap.size + 1, 3, none⟩ = some (.int .i64 y.wlo) := cell_of_block h1 3 (by simp [Cont.cells])
    have b4 : wr.cell? ⟨w.heap.size + 1, 4, none⟩ = some (.int .i64 y.whi) := cell_of_block h1 4 (by simp [Cont.cells])
    have l0 := (Array.getElem?_eq_some_iff.1 h0).1
    have l1 := (Array.getElem?_eq_some_iff.1 h1).1
    have l2 := (Array.getElem?_eq_some_iff.1 h2).1
    have HB := Lib.hid hb; clear hb
    have H0 := Lib.hid h0; clear h0
    have H1 := Lib.hid h1; clear h1
    have H2 := Lib.hid h2; clear h2
    simp at a0 a1 a2
    by_cases hlt : j < m
    · have dl := DL.1 hlt
      have NE := rnext_any C y aS k cS F G wr (HCW.out.below HB.out) (HSW.out.below HB.out) g1 g3 oy (by have := FM.out (by have := MD.out; omega); omega) (by omega)
      rw [← EN.out] at NE
      obtain ⟨u, hu⟩ : ∃ u, dayC C F G k x (j + 1) = u := ⟨_, rfl⟩
      rw [hu] at NE EN
      rw [show y.val = .agg #[.int .i64 y.day, .int .i64 y.alo, .int .i64 y.ahi, .int .i64 y.wlo, .int .i64 y.whi] from rfl, show u.val = .agg #[.int .i64 u.day, .int .i64 u.alo, .int .i64 u.ahi, .int .i64 u.wlo, .int .i64 u.whi] from rfl] at NE
      have UD := Lib.hid (show u.day = y.day + 1 by rw [EN.out]; rfl)
      have HU := Lib.hid hu; clear hu hyy DL ey EN
      have NE' := Lib.hid NE; clear NE
      have MS := Lib.hid (show (wr.cell? ⟨w.heap.size + 1, 0, none⟩).getD undef = .int .i64 y.day by rw [b0]; rfl)
      go_wp2_with fail
      refine (Calls.grown NE'.out).mono ?_
      rintro e w1 ⟨rfl, z', rfl⟩
      have f1 := fun i => frozen_of_block (((below_gw wr z').block _ l1).trans H1.out) i
      have q0 := f1 0
      have q1 := f1 1
      have q2 := f1 2
      have q3 := f1 3
      have q4 := f1 4
      have BZ := Lib.hid (((((((HB.out.gw z').setCell (p := ⟨w.heap.size + 1, 0, none⟩) (by simp <;> omega) (.int .i64 u.day)).setCell (p := ⟨w.heap.size + 1, 1, none⟩) (by simp <;> omega) (.int .i64 u.alo)).setCell (p := ⟨w.heap.size + 1, 2, none⟩) (by simp <;> omega) (.int .i64 u.ahi)).setCell (p := ⟨w.heap.size + 1, 3, none⟩) (by simp <;> omega) (.int .i64 u.wlo)).setCell (p := ⟨w.heap.size + 1, 4, none⟩) (by simp <;> omega) (.int .i64 u.whi)))
      have B1 := Lib.hid (block_set 4 (.int .i64 u.whi) (block_set 3 (.int .i64 u.wlo) (block_set 2 (.int .i64 u.ahi) (block_set 1 (.int .i64 u.alo) (block_set 0 (.int .i64 u.day) (((below_gw wr z').block _ l1).trans H1.out))))))
      have oth : ∀ b : Nat, b < wr.heap.size → b ≠ w.heap.size + 1 → ((((((gw wr z').setCell ⟨w.heap.size + 1, 0, none⟩ (.int .i64 u.day)).setCell ⟨w.heap.size + 1, 1, none⟩ (.int .i64 u.alo)).setCell ⟨w.heap.size + 1, 2, none⟩ (.int .i64 u.ahi)).setCell ⟨w.heap.size + 1, 3, none⟩ (.int .i64 u.wlo)).setCell ⟨w.heap.size + 1, 4, none⟩ (.int .i64 u.whi)).heap[b]? = wr.heap[b]? := fun b hb hn => by
        rw [Below.heap_setCell _ _ _ _ (by simpa using hn), Below.heap_setCell _ _ _ _ (by simpa using hn), Below.heap_setCell _ _ _ _ (by simpa using hn), Below.heap_setCell _ _ _ _ (by simpa using hn), Below.heap_setCell _ _ _ _ (by simpa using hn)]
        exact (below_gw wr z').block b hb
      have O := Lib.hid oth; clear oth f1
      go_wp2_with fail
      go_roundw
      case rel => exact ⟨j + 1, by omega, (O.out _ l0 (by omega)).trans H0.out, by rw [HU.out]; exact B1.out, (O.out _ l2 (by omega)).trans H2.out, BZ.out⟩
      case measure =>
        have MZ : (((((((gw wr z').setCell ⟨w.heap.size + 1, 0, none⟩ (.int .i64 u.day)).setCell ⟨w.heap.size + 1, 1, none⟩ (.int .i64 u.alo)).setCell ⟨w.heap.size + 1, 2, none⟩ (.int .i64 u.ahi)).setCell ⟨w.heap.size + 1, 3, none⟩ (.int .i64 u.wlo)).setCell ⟨w.heap.size + 1, 4, none⟩ (.int .i64 u.whi)).cell? ⟨w.heap.size + 1, 0, none⟩).getD undef = .int .i64 u.day := by
          have := cell_of_block B1.out 0 (by simp [Cont.cells])
          rw [this]; simp [Cont.cells]
        rw [MZ, MS.out, UD.out]
        show (day - (y.day + 1)).toNat < (day - y.day).toNat
        omega
    · have dl := fun h => hlt (DL.2 h)
      obtain rfl : j = m := by omega
      have HU := Lib.hid hyy; clear hyy DL ey EN
      have q0 := frozen_of_block H2.out 0
      have q1 := frozen_of_block H2.out 1
      have q2 := frozen_of_block H2.out 2
      have q3 := frozen_of_block H2.out 3
      have q4 := frozen_of_block H2.out 4
      have r0 := cell_of_block H2.out 0 (by simp)
      have r1 := cell_of_block H2.out 1 (by simp)
      have r2 := cell_of_block H2.out 2 (by simp)
      have r3 := cell_of_block H2.out 3 (by simp)
      have r4 := cell_of_block H2.out 4 (by simp)
      simp at r0 r1 r2 r3 r4
      go_wp2_with fail
      refine bodyPost_ret (v := .tuple #[.agg #[.int .i64 y.day, .int .i64 y.alo, .int .i64 y.ahi, .int .i64 y.wlo, .int .i64 y.whi], .int .i64 0]) (by simp [results, Try.results36, go_sem, *]) rfl ⟨by rw [HU.out]; rfl, ?_⟩
      exact ((((HB.out.setCell (by simp <;> omega) _).setCell (by simp <;> omega) _).setCell (by simp <;> omega) _).setCell (by simp <;> omega) _).setCell (by simp <;> omega) _
end Go.Proofs.Ytljofnmgddfljaa
