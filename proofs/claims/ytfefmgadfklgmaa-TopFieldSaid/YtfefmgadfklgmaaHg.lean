/- Contract of Play, whatever its arguments are. No conditions beyond each theorem's own. -/
import Derived.Test.YtfefmgadfklgmaaHf
set_option linter.unusedVariables false
set_option linter.unusedSimpArgs false
set_option linter.unusedSectionVars false
set_option linter.constructorNameAsVariable false
namespace Go.Proofs.Ytfefmgadfklgmaa.L2
open Go.RowKit

attribute [local go_sem] gw_cell gw_frozen gw_size

theorem PS.drew {w V X : World} {B : Nat} {c1 c2 c3 : Array Value} (h : PS w V B c1 c2 c3 X) : PS w V B c1 c2 c3 X.drew := ⟨h.below.drew, h.b, h.r1, h.r2, h.r3⟩
section
variable (dl dh wl wh pl ph : Int) (n : Nat) (K A Bs : Nat → Int)
/-- the error of Play -/
def playE : Int := if maltB dl dh wl wh pl ph = true then (if n ≤ 256 then (if (vt6 dl dh wl wh pl ph).stop K A Bs n = n then 0 else (vt6 dl dh wl wh pl ph).errAt K A Bs ((vt6 dl dh wl wh pl ph).stop K A Bs n)) else 3) else 1
end
/-- how Play ends, whatever its arguments are -/
def PlayR (dl dh wl wh pl ph : Int) (n : Nat) (K A Bs : Nat → Int) (w : World) (e : Ending) (w' : World) : Prop :=
  Below w.heap.size w w' ∧ ((playE dl dh wl wh pl ph n K A Bs = 0 ∧ e = .returned (.tuple #[((vt6 dl dh wl wh pl ph).at K A Bs n).malt, ((vt6 dl dh wl wh pl ph).at K A Bs n).loss, .int .i64 (n : Int), .int .i64 0])) ∨ (playE dl dh wl wh pl ph n K A Bs ≠ 0 ∧ ∃ i, e = .returned (.tuple #[noMalt, noLoss, .int .i64 i, .int .i64 (playE dl dh wl wh pl ph n K A Bs)])))

set_option maxRecDepth 100000 in
set_option maxHeartbeats 4000000 in
theorem play_arg (dl dh wl wh pl ph : Int) (aS : Option Addr) (n cS : Nat) (w : World) (hM : maltB dl dh wl wh pl ph = false) :
    Calls Try.prog 8 #[.agg #[.int .i64 dl, .int .i64 dh, .int .i64 wl, .int .i64 wh, .int .i64 pl, .int .i64 ph], .slice aS n cS] w fun e w' => e = .returned (.tuple #[noMalt, noLoss, .int .i64 0, .int .i64 1]) ∧ Below w.heap.size w w' := by
  have hmf : ∀ (fn : Fn) (first cap : Array Value) (w : World), (Instr.makeFunc fn first cap).run Try.prog w = .ok (.func fn first cap) w := fun _ _ _ _ => rfl
  unfold noMalt noLoss
  obtain ⟨W1, hW1⟩ : ∃ W1, (((w.alloc (.cells #[.int .i64 dl, .int .i64 dh, .int .i64 wl, .int .i64 wh, .int .i64 pl, .int .i64 ph] 25)).alloc (.cells #[.int .i64 0, .int .i64 0, .int .i64 0, .int .i64 0, .int .i64 0, .int .i64 0] 25)).alloc (.cells #[.int .i64 0, .int .i64 0, .int .i64 0, .int .i64 0, .int .i64 0, .int .i64 0, .int .i64 0, .int .i64 0] 43)).alloc (.cells #[.int .i64 0] 44) = W1 := ⟨_, rfl⟩
  have hBc : Below w.heap.size w W1 := by rw [← hW1]; exact (((below_alloc _ _).alloc (by simp) _).alloc (by simp <;> omega) _).alloc (by simp <;> omega) _
  have zc0 : W1.heap[w.heap.size]? = some (.cells #[.int .i64 dl, .int .i64 dh, .int .i64 wl, .int .i64 wh, .int .i64 pl, .int .i64 ph] 25 (0, 0)) := by rw [← hW1]; exact alloc_keep (alloc_keep (alloc_keep (alloc_at rfl)))
  have zc1 : W1.heap[w.heap.size + 1]? = some (.cells #[.int .i64 0, .int .i64 0, .int .i64 0, .int .i64 0, .int .i64 0, .int .i64 0] 25 (0, 0)) := by rw [← hW1]; exact alloc_keep (alloc_keep (alloc_at (by simp)))
  have zc2 : W1.heap[w.heap.size + 1 + 1]? = some (.cells #[.int .i64 0, .int .i64 0, .int .i64 0, .int .i64 0, .int .i64 0, .int .i64 0, .int .i64 0, .int .i64 0] 43 (0, 0)) := by rw [← hW1]; exact alloc_keep (alloc_at (by simp <;> omega))
  have zc3 : W1.heap[w.heap.size + 1 + 1 + 1]? = some (.cells #[.int .i64 0] 44 (0, 0)) := by rw [← hW1]; exact alloc_at (by simp <;> omega)
  have c00 : W1.cell? ⟨w.heap.size, 0, none⟩ = some (.int .i64 dl) := cell_of_block zc0 0 (by simp)
  have c01 : W1.cell? ⟨w.heap.size, 1, none⟩ = some (.int .i64 dh) := cell_of_block zc0 1 (by simp)
  have c02 : W1.cell? ⟨w.heap.size, 2, none⟩ = some (.int .i64 wl) := cell_of_block zc0 2 (by simp)
  have c03 : W1.cell? ⟨w.heap.size, 3, none⟩ = some (.int .i64 wh) := cell_of_block zc0 3 (by simp)
  have c04 : W1.cell? ⟨w.heap.size, 4, none⟩ = some (.int .i64 pl) := cell_of_block zc0 4 (by simp)
  have c05 : W1.cell? ⟨w.heap.size, 5, none⟩ = some (.int .i64 ph) := cell_of_block zc0 5 (by simp)
  have c10 : W1.cell? ⟨w.heap.size + 1, 0, none⟩ = some (.int .i64 0) := cell_of_block zc1 0 (by simp)
  have c11 : W1.cell? ⟨w.heap.size + 1, 1, none⟩ = some (.int .i64 0) := cell_of_block zc1 1 (by simp)
  have c12 : W1.cell? ⟨w.heap.size + 1, 2, none⟩ = some (.int .i64 0) := cell_of_block zc1 2 (by simp)
  have c13 : W1.cell? ⟨w.heap.size + 1, 3, none⟩ = some (.int .i64 0) := cell_of_block zc1 3 (by simp)
  have c14 : W1.cell? ⟨w.heap.size + 1, 4, none⟩ = some (.int .i64 0) := cell_of_block zc1 4 (by simp)
  have c15 : W1.cell? ⟨w.heap.size + 1, 5, none⟩ = some (.int .i64 0) := cell_of_block zc1 5 (by simp)
  have c20 : W1.cell? ⟨w.heap.size + 1 + 1, 0, none⟩ = some (.int .i64 0) := cell_of_block zc2 0 (by simp)
  have c21 : W1.cell? ⟨w.heap.size + 1 + 1, 1, none⟩ = some (.int .i64 0) := cell_of_block zc2 1 (by simp)
  have c22 : W1.cell? ⟨w.heap.size + 1 + 1, 2, none⟩ = some (.int .i64 0) := cell_of_block zc2 2 (by simp)
  have c23 : W1.cell? ⟨w.heap.size + 1 + 1, 3, none⟩ = some (.int .i64 0) := cell_of_block zc2 3 (by simp)
  have c24 : W1.cell? ⟨w.heap.size + 1 + 1, 4, none⟩ = some (.int .i64 0) := cell_of_block zc2 4 (by simp)
  have c25 : W1.cell? ⟨w.heap.size + 1 + 1, 5, none⟩ = some (.int .i64 0) := cell_of_block zc2 5 (by simp)
  have c26 : W1.cell? ⟨w.heap.size + 1 + 1, 6, none⟩ = some (.int .i64 0) := cell_of_block zc2 6 (by simp)
  have c27 : W1.cell? ⟨w.heap.size + 1 + 1, 7, none⟩ = some (.int .i64 0) := cell_of_block zc2 7 (by simp)
  have c30 : W1.cell? ⟨w.heap.size + 1 + 1 + 1, 0, none⟩ = some (.int .i64 0) := cell_of_block zc3 0 (by simp)
  have lc0 := (Array.getElem?_eq_some_iff.1 zc0).1
  have lc1 := (Array.getElem?_eq_some_iff.1 zc1).1
  have lc2 := (Array.getElem?_eq_some_iff.1 zc2).1
  have lc3 := (Array.getElem?_eq_some_iff.1 zc3).1
  have fc10 := frozen_of_block zc1 0
  have fc11 := frozen_of_block zc1 1
  have fc12 := frozen_of_block zc1 2
  have fc13 := frozen_of_block zc1 3
  have fc14 := frozen_of_block zc1 4
  have fc15 := frozen_of_block zc1 5
  have fc20 := frozen_of_block zc2 0
  have fc21 := frozen_of_block zc2 1
  have fc22 := frozen_of_block zc2 2
  have fc23 := frozen_of_block zc2 3
  have fc24 := frozen_of_block zc2 4
  have fc25 := frozen_of_block zc2 5
  have fc26 := frozen_of_block zc2 6
  have fc27 := frozen_of_block zc2 7
  have fc30 := frozen_of_block zc3 0
  have Zc1 := Lib.hid zc1
  have Zc2 := Lib.hid zc2
  have Zc3 := Lib.hid zc3
  clear zc0 zc1 zc2 zc3
  have HBc := Lib.hid hBc; clear hBc
  have HWc := Lib.hid hW1; clear hW1
  have IM := isMalt_any dl dh wl wh pl ph
  rw [hM] at IM
  have IM := Lib.hid IM
  clear hM
  go_enter_defers Try.func8, Try.ntmps8
  go_upto_region 1 with (fail)
  rw [HWc.out]
  go_wp2_with fail
  refine (Calls.grown (IM.out _)).mono ?_
  rintro e w2 ⟨rfl, z1, rfl⟩
  go_upto_region 2 with (fail)
  go_region
  go_wp2_with fail
  obtain ⟨X, hX⟩ : ∃ X, gw W1 z1 = X := ⟨_, rfl⟩
  have hB3 : w.heap.size + 1 + 1 + 1 < w.heap.size + 5 := by omega
  have P0 : PS w X (w.heap.size + 5) #[.int .i64 0, .int .i64 0, .int .i64 0, .int .i64 0, .int .i64 0, .int .i64 0] #[.int .i64 0, .int .i64 0, .int .i64 0, .int .i64 0, .int .i64 0, .int .i64 0, .int .i64 0, .int .i64 0] #[.int .i64 0] X := by rw [← hX]; exact ⟨HBc.out.gw z1, rfl, gw_keep Zc1.out z1, gw_keep Zc2.out z1, gw_keep Zc3.out z1⟩
  rw [hX]
  have P8 := ((((((((((((((((P0).set1 hB3 0 (.int .i64 0)).set1 hB3 1 (.int .i64 0)).set1 hB3 2 (.int .i64 0)).set1 hB3 3 (.int .i64 0)).set1 hB3 4 (.int .i64 0)).set1 hB3 5 (.int .i64 0)).set2 hB3 0 (.int .i64 0)).set2 hB3 1 (.int .i64 0)).set2 hB3 2 (.int .i64 0)).set2 hB3 3 (.int .i64 0)).set2 hB3 4 (.int .i64 0)).set2 hB3 5 (.int .i64 0)).set2 hB3 6 (.int .i64 0)).set2 hB3 7 (.int .i64 0)).set3 hB3 0 (.int .i64 1)).drew
  have P8 : PS w X (w.heap.size + 5) #[.int .i64 0, .int .i64 0, .int .i64 0, .int .i64 0, .int .i64 0, .int .i64 0] #[.int .i64 0, .int .i64 0, .int .i64 0, .int .i64 0, .int .i64 0, .int .i64 0, .int .i64 0, .int .i64 0] #[.int .i64 1] _ := P8
  generalize World.drew _ = Z at P8 ⊢
  have r10 : Z.cell? ⟨w.heap.size + 1, 0, none⟩ = some (.int .i64 0) := cell_of_block P8.r1 0 (by simp)
  have r11 : Z.cell? ⟨w.heap.size + 1, 1, none⟩ = some (.int .i64 0) := cell_of_block P8.r1 1 (by simp)
  have r12 : Z.cell? ⟨w.heap.size + 1, 2, none⟩ = some (.int .i64 0) := cell_of_block P8.r1 2 (by simp)
  have r13 : Z.cell? ⟨w.heap.size + 1, 3, none⟩ = some (.int .i64 0) := cell_of_block P8.r1 3 (by simp)
  have r14 : Z.cell? ⟨w.heap.size + 1, 4, none⟩ = some (.int .i64 0) := cell_of_block P8.r1 4 (by simp)
  have r15 : Z.cell? ⟨w.heap.size + 1, 5, none⟩ = some (.int .i64 0) := cell_of_block P8.r1 5 (by simp)
  have r20 : Z.cell? ⟨w.heap.size + 1 + 1, 0, none⟩ = some (.int .i64 0) := cell_of_block P8.r2 0 (by simp)
  have r21 : Z.cell? ⟨w.heap.size + 1 + 1, 1, none⟩ = some (.int .i64 0) := cell_of_block P8.r2 1 (by simp)
  have r22 : Z.cell? ⟨w.heap.size + 1 + 1, 2, none⟩ = some (.int .i64 0) := cell_of_block P8.r2 2 (by simp)
  have r23 : Z.cell? ⟨w.heap.size + 1 + 1, 3, none⟩ = some (.int .i64 0) := cell_of_block P8.r2 3 (by simp)
  have r24 : Z.cell? ⟨w.heap.size + 1 + 1, 4, none⟩ = some (.int .i64 0) := cell_of_block P8.r2 4 (by simp)
  have r25 : Z.cell? ⟨w.heap.size + 1 + 1, 5, none⟩ = some (.int .i64 0) := cell_of_block P8.r2 5 (by simp)
  have r26 : Z.cell? ⟨w.heap.size + 1 + 1, 6, none⟩ = some (.int .i64 0) := cell_of_block P8.r2 6 (by simp)
  have r27 : Z.cell? ⟨w.heap.size + 1 + 1, 7, none⟩ = some (.int .i64 0) := cell_of_block P8.r2 7 (by simp)
  have r30 : Z.cell? ⟨w.heap.size + 1 + 1 + 1, 0, none⟩ = some (.int .i64 1) := cell_of_block P8.r3 0 (by simp)
  simp [bodyPostD, Leaves, settle, results, Try.results8, go_sem, r10, r11, r12, r13, r14, r15, r20, r21, r22, r23, r24, r25, r26, r27, r30]
  exact P8.below

set_option maxRecDepth 100000 in
set_option maxHeartbeats 4000000 in
theorem play_long (dl dh wl wh pl ph : Int) (aS : Option Addr) (n cS : Nat) (w : World) (hM : maltB dl dh wl wh pl ph = true) (hn : 256 < n) :
    Calls Try.prog 8 #[.agg #[.int .i64 dl, .int .i64 dh, .int .i64 wl, .int .i64 wh, .int .i64 pl, .int .i64 ph], .slice aS n cS] w fun e w' => e = .returned (.tuple #[noMalt, noLoss, .int .i64 0, .int .i64 3]) ∧ Below w.heap.size w w' := by
  have hmf : ∀ (fn : Fn) (first cap : Array Value) (w : World), (Instr.makeFunc fn first cap).run Try.prog w = .ok (.func fn first cap) w := fun _ _ _ _ => rfl
  unfold noMalt noLoss
  obtain ⟨W1, hW1⟩ : ∃ W1, (((w.alloc (.cells #[.int .i64 dl, .int .i64 dh, .int .i64 wl, .int .i64 wh, .int .i64 pl, .int .i64 ph] 25)).alloc (.cells #[.int .i64 0, .int .i64 0, .int .i64 0, .int .i64 0, .int .i64 0, .int .i64 0] 25)).alloc (.cells #[.int .i64 0, .int .i64 0, .int .i64 0, .int .i64 0, .int .i64 0, .int .i64 0, .int .i64 0, .int .i64 0] 43)).alloc (.cells #[.int .i64 0] 44) = W1 := ⟨_, rfl⟩
  have hBc : Below w.heap.size w W1 := by rw [← hW1]; exact (((below_alloc _ _).alloc (by simp) _).alloc (by simp <;> omega) _).alloc (by simp <;> omega) _
  have zc0 : W1.heap[w.heap.size]? = some (.cells #[.int .i64 dl, .int .i64 dh, .int .i64 wl, .int .i64 wh, .int .i64 pl, .int .i64 ph] 25 (0, 0)) := by rw [← hW1]; exact alloc_keep (alloc_keep (alloc_keep (alloc_at rfl)))
  have zc1 : W1.heap[w.heap.size + 1]? = some (.cells #[.int .i64 0, .int .i64 0, .int .i64 0, .int .i64 0, .int .i64 0, .int .i64 0] 25 (0, 0)) := by rw [← hW1]; exact alloc_keep (alloc_keep (alloc_at (by simp)))
  have zc2 : W1.heap[w.heap.size + 1 + 1]? = some (.cells #[.int .i64 0, .int .i64 0, .int .i64 0, .int .i64 0, .int .i64 0, .int .i64 0, .int .i64 0, .int .i64 0] 43 (0, 0)) := by rw [← hW1]; exact alloc_keep (alloc_at (by simp <;> omega))
  have zc3 : W1.heap[w.heap.size + 1 + 1 + 1]? = some (.cells #[.int .i64 0] 44 (0, 0)) := by rw [← hW1]; exact alloc_at (by simp <;> omega)
  have c00 : W1.cell? ⟨w.heap.size, 0, none⟩ = some (.int .i64 dl) := cell_of_block zc0 0 (by simp)
  have c01 : W1.cell? ⟨w.heap.size, 1, none⟩ = some (.int .i64 dh) := cell_of_block zc0 1 (by simp)
  have c02 : W1.cell? ⟨w.heap.size, 2, none⟩ = some (.int .i64 wl) := cell_of_block zc0 2 (by simp)
  have c03 : W1.cell? ⟨w.heap.size, 3, none⟩ = some (.int .i64 wh) := cell_of_block zc0 3 (by simp)
  have c04 : W1.cell? ⟨w.heap.size, 4, none⟩ = some (.int .i64 pl) := cell_of_block zc0 4 (by simp)
  have c05 : W1.cell? ⟨w.heap.size, 5, none⟩ = some (.int .i64 ph) := cell_of_block zc0 5 (by simp)
  have c10 : W1.cell? ⟨w.heap.size + 1, 0, none⟩ = some (.int .i64 0) := cell_of_block zc1 0 (by simp)
  have c11 : W1.cell? ⟨w.heap.size + 1, 1, none⟩ = some (.int .i64 0) := cell_of_block zc1 1 (by simp)
  have c12 : W1.cell? ⟨w.heap.size + 1, 2, none⟩ = some (.int .i64 0) := cell_of_block zc1 2 (by simp)
  have c13 : W1.cell? ⟨w.heap.size + 1, 3, none⟩ = some (.int .i64 0) := cell_of_block zc1 3 (by simp)
  have c14 : W1.cell? ⟨w.heap.size + 1, 4, none⟩ = some (.int .i64 0) := cell_of_block zc1 4 (by simp)
  have c15 : W1.cell? ⟨w.heap.size + 1, 5, none⟩ = some (.int .i64 0) := cell_of_block zc1 5 (by simp)
  have c20 : W1.cell? ⟨w.heap.size + 1 + 1, 0, none⟩ = some (.int .i64 0) := cell_of_block zc2 0 (by simp)
  have c21 : W1.cell? ⟨w.heap.size + 1 + 1, 1, none⟩ = some (.int .i64 0) := cell_of_block zc2 1 (by simp)
  have c22 : W1.cell? ⟨w.heap.size + 1 + 1, 2, none⟩ = some (.int .i64 0) := cell_of_block zc2 2 (by simp)
  have c23 : W1.cell? ⟨w.heap.size + 1 + 1, 3, none⟩ = some (.int .i64 0) := cell_of_block zc2 3 (by simp)
  have c24 : W1.cell? ⟨w.heap.size + 1 + 1, 4, none⟩ = some (.int .i64 0) := cell_of_block zc2 4 (by simp)
  have c25 : W1.cell? ⟨w.heap.size + 1 + 1, 5, none⟩ = some (.int .i64 0) := cell_of_block zc2 5 (by simp)
  have c26 : W1.cell? ⟨w.heap.size + 1 + 1, 6, none⟩ = some (.int .i64 0) := cell_of_block zc2 6 (by simp)
  have c27 : W1.cell? ⟨w.heap.size + 1 + 1, 7, none⟩ = some (.int .i64 0) := cell_of_block zc2 7 (by simp)
  have c30 : W1.cell? ⟨w.heap.size + 1 + 1 + 1, 0, none⟩ = some (.int .i64 0) := cell_of_block zc3 0 (by simp)
  have lc0 := (Array.getElem?_eq_some_iff.1 zc0).1
  have lc1 := (Array.getElem?_eq_some_iff.1 zc1).1
  have lc2 := (Array.getElem?_eq_some_iff.1 zc2).1
  have lc3 := (Array.getElem?_eq_some_iff.1 zc3).1
  have fc10 := frozen_of_block zc1 0
  have fc11 := frozen_of_block zc1 1
  have fc12 := frozen_of_block zc1 2
  have fc13 := frozen_of_block zc1 3
  have fc14 := frozen_of_block zc1 4
  have fc15 := frozen_of_block zc1 5
  have fc20 := frozen_of_block zc2 0
  have fc21 := frozen_of_block zc2 1
  have fc22 := frozen_of_block zc2 2
  have fc23 := frozen_of_block zc2 3
  have fc24 := frozen_of_block zc2 4
  have fc25 := frozen_of_block zc2 5
  have fc26 := frozen_of_block zc2 6
  have fc27 := frozen_of_block zc2 7
  have fc30 := frozen_of_block zc3 0
  have Zc1 := Lib.hid zc1
  have Zc2 := Lib.hid zc2
  have Zc3 := Lib.hid zc3
  clear zc0 zc1 zc2 zc3
  have HBc := Lib.hid hBc; clear hBc
  have HWc := Lib.hid hW1; clear hW1
  have IM := isMalt_any dl dh wl wh pl ph
  rw [hM] at IM
  have IM := Lib.hid IM
  clear hM
  have d1 : decide ((n : Int) > 256) = true := by simp; omega
  have d2 : decide ((256 : Int) < (n : Int)) = true := by simp; omega
  have d3 : decide (256 < n) = true := by simp; omega
  go_enter_defers Try.func8, Try.ntmps8
  go_upto_region 1 with (fail)
  rw [HWc.out]
  go_wp2_with fail
  refine (Calls.grown (IM.out _)).mono ?_
  rintro e w2 ⟨rfl, z1, rfl⟩
  go_upto_region 4 with (fail)
  go_region
  go_wp2_with fail
  obtain ⟨X, hX⟩ : ∃ X, gw W1 z1 = X := ⟨_, rfl⟩
  have hB3 : w.heap.size + 1 + 1 + 1 < w.heap.size + 5 := by omega
  have P0 : PS w X (w.heap.size + 5) #[.int .i64 0, .int .i64 0, .int .i64 0, .int .i64 0, .int .i64 0, .int .i64 0] #[.int .i64 0, .int .i64 0, .int .i64 0, .int .i64 0, .int .i64 0, .int .i64 0, .int .i64 0, .int .i64 0] #[.int .i64 0] X := by rw [← hX]; exact ⟨HBc.out.gw z1, rfl, gw_keep Zc1.out z1, gw_keep Zc2.out z1, gw_keep Zc3.out z1⟩
  rw [hX]
  have P8 := ((((((((((((((((P0).set1 hB3 0 (.int .i64 0)).set1 hB3 1 (.int .i64 0)).set1 hB3 2 (.int .i64 0)).set1 hB3 3 (.int .i64 0)).set1 hB3 4 (.int .i64 0)).set1 hB3 5 (.int .i64 0)).set2 hB3 0 (.int .i64 0)).set2 hB3 1 (.int .i64 0)).set2 hB3 2 (.int .i64 0)).set2 hB3 3 (.int .i64 0)).set2 hB3 4 (.int .i64 0)).set2 hB3 5 (.int .i64 0)).set2 hB3 6 (.int .i64 0)).set2 hB3 7 (.int .i64 0)).set3 hB3 0 (.int .i64 3)).drew
  have P8 : PS w X (w.heap.size + 5) #[.int .i64 0, .int .i64 0, .int .i64 0, .int .i64 0, .int .i64 0, .int .i64 0] #[.int .i64 0, .int .i64 0, .int .i64 0, .int .i64 0, .int .i64 0, .int .i64 0, .int .i64 0, .int .i64 0] #[.int .i64 3] _ := P8
  generalize World.drew _ = Z at P8 ⊢
  have r10 : Z.cell? ⟨w.heap.size + 1, 0, none⟩ = some (.int .i64 0) := cell_of_block P8.r1 0 (by simp)
  have r11 : Z.cell? ⟨w.heap.size + 1, 1, none⟩ = some (.int .i64 0) := cell_of_block P8.r1 1 (by simp)
  have r12 : Z.cell? ⟨w.heap.size + 1, 2, none⟩ = some (.int .i64 0) := cell_of_block P8.r1 2 (by simp)
  have r13 : Z.cell? ⟨w.heap.size + 1, 3, none⟩ = some (.int .i64 0) := cell_of_block P8.r1 3 (by simp)
  have r14 : Z.cell? ⟨w.heap.size + 1, 4, none⟩ = some (.int .i64 0) := cell_of_block P8.r1 4 (by simp)
  have r15 : Z.cell? ⟨w.heap.size + 1, 5, none⟩ = some (.int .i64 0) := cell_of_block P8.r1 5 (by simp)
  have r20 : Z.cell? ⟨w.heap.size + 1 + 1, 0, none⟩ = some (.int .i64 0) := cell_of_block P8.r2 0 (by simp)
  have r21 : Z.cell? ⟨w.heap.size + 1 + 1, 1, none⟩ = some (.int .i64 0) := cell_of_block P8.r2 1 (by simp)
  have r22 : Z.cell? ⟨w.heap.size + 1 + 1, 2, none⟩ = some (.int .i64 0) := cell_of_block P8.r2 2 (by simp)
  have r23 : Z.cell? ⟨w.heap.size + 1 + 1, 3, none⟩ = some (.int .i64 0) := cell_of_block P8.r2 3 (by simp)
  have r24 : Z.cell? ⟨w.heap.size + 1 + 1, 4, none⟩ = some (.int .i64 0) := cell_of_block P8.r2 4 (by simp)
  have r25 : Z.cell? ⟨w.heap.size + 1 + 1, 5, none⟩ = some (.int .i64 0) := cell_of_block P8.r2 5 (by simp)
  have r26 : Z.cell? ⟨w.heap.size + 1 + 1, 6, none⟩ = some (.int .i64 0) := cell_of_block P8.r2 6 (by simp)
  have r27 : Z.cell? ⟨w.heap.size + 1 + 1, 7, none⟩ = some (.int .i64 0) := cell_of_block P8.r2 7 (by simp)
  have r30 : Z.cell? ⟨w.heap.size + 1 + 1 + 1, 0, none⟩ = some (.int .i64 3) := cell_of_block P8.r3 0 (by simp)
  simp [bodyPostD, Leaves, settle, results, Try.results8, go_sem, r10, r11, r12, r13, r14, r15, r20, r21, r22, r23, r24, r25, r26, r27, r30]
  exact P8.below

theorem Play_any (dl dh wl wh pl ph : Int) (aS : Option Addr) (n cS : Nat) (K A Bs : Nat → Int) (w : World) (hS : StepsAt w aS n K A Bs) :
    Calls Try.prog 8 #[.agg #[.int .i64 dl, .int .i64 dh, .int .i64 wl, .int .i64 wh, .int .i64 pl, .int .i64 ph], .slice aS n cS] w (PlayR dl dh wl wh pl ph n K A Bs w) := by
  cases hM : maltB dl dh wl wh pl ph with
  | false =>
    have e1 : playE dl dh wl wh pl ph n K A Bs = 1 := if_neg (by rw [hM]; simp)
    refine (play_arg dl dh wl wh pl ph aS n cS w hM).mono ?_
    rintro e w' ⟨rfl, hb⟩
    exact ⟨hb, .inr ⟨by omega, 0, by rw [e1]⟩⟩
  | true =>
    by_cases hn : n ≤ 256
    · have h1 := Vt.stop_le (vt6 dl dh wl wh pl ph) K A Bs n
      refine (playMain dl dh wl wh pl ph aS n cS K A Bs _ w hM hn hS h1 (fun j hj => Vt.stop_lt (vt6 dl dh wl wh pl ph) K A Bs n j hj) (Vt.stop_bad (vt6 dl dh wl wh pl ph) K A Bs n)).mono ?_
      rintro e w' ⟨hb, ⟨h2, rfl⟩ | ⟨h2, rfl⟩⟩
      · have e1 : playE dl dh wl wh pl ph n K A Bs = 0 := by unfold playE; rw [if_pos hM, if_pos hn, if_pos h2]
        exact ⟨hb, .inl ⟨e1, rfl⟩⟩
      · have e1 : playE dl dh wl wh pl ph n K A Bs = (vt6 dl dh wl wh pl ph).errAt K A Bs ((vt6 dl dh wl wh pl ph).stop K A Bs n) := by unfold playE; rw [if_pos hM, if_pos hn, if_neg (by omega)]
        refine ⟨hb, .inr ⟨?_, _, by rw [e1]⟩⟩
        rw [e1]
        exact Vt.stop_bad (vt6 dl dh wl wh pl ph) K A Bs n h2
    · have e1 : playE dl dh wl wh pl ph n K A Bs = 3 := by unfold playE; rw [if_pos hM, if_neg hn]
      refine (play_long dl dh wl wh pl ph aS n cS w hM (by omega)).mono ?_
      rintro e w' ⟨rfl, hb⟩
      exact ⟨hb, .inr ⟨by omega, 0, by rw [e1]⟩⟩
/-- where Play has no error -/
theorem play_zero {dl dh wl wh pl ph : Int} {n : Nat} {K A Bs : Nat → Int} (h : playE dl dh wl wh pl ph n K A Bs = 0) : maltB dl dh wl wh pl ph = true ∧ n ≤ 256 ∧ (∀ j, j ≤ n → ((vt6 dl dh wl wh pl ph).at K A Bs j).Ok) := by
  unfold playE at h
  by_cases hM : maltB dl dh wl wh pl ph = true
  · rw [if_pos hM] at h
    by_cases hn : n ≤ 256
    · rw [if_pos hn] at h
      have h1 := Vt.stop_le (vt6 dl dh wl wh pl ph) K A Bs n
      by_cases hs : (vt6 dl dh wl wh pl ph).stop K A Bs n = n
      · exact ⟨hM, hn, fun j hj => (vt6_ok hM).at j fun i hi => Vt.stop_lt (vt6 dl dh wl wh pl ph) K A Bs n i (by omega)⟩
      · rw [if_neg hs] at h
        exact absurd h (Vt.stop_bad (vt6 dl dh wl wh pl ph) K A Bs n (by omega))
    · rw [if_neg hn] at h; omega
  · rw [if_neg hM] at h; omega
end Go.Proofs.Ytfefmgadfklgmaa.L2
