/- Contracts of strength, Strength (of the program and of the reference). No conditions beyond each theorem's own. -/
import Derived.Test.YtljofnmgddfljaaBk
set_option linter.unusedVariables false
set_option linter.unusedSimpArgs false
set_option linter.unusedSectionVars false
set_option linter.constructorNameAsVariable false
namespace Go.Proofs.Ytljofnmgddfljaa
open Go.RowKit

attribute [local go_sem] gw_cell gw_frozen gw_size

def strLo (x : Cont) : Int := if 0 < x.alo then x.alo * 10000 / (x.alo + x.whi) else 0
def strHi (x : Cont) : Int := if 0 < x.ahi then upI (x.ahi * 10000) (x.ahi + x.wlo) else 0

set_option maxRecDepth 100000 in
set_option maxHeartbeats 2000000 in
theorem strength_any (x : Cont) (w : World) (hx : contB x = true) :
    Calls Try.prog 64 #[x.val] w fun e w' => e = .returned (.agg #[.int .i64 (strLo x), .int .i64 (strHi x)]) ∧ Below w.heap.size w w' := by
  obtain ⟨⟨d0, d1⟩, ⟨x0, x1, x2⟩, y0, y1, y2⟩ := contB_t hx
  clear hx
  unfold Cont.val
  by_cases p : 0 < x.alo <;> by_cases q : 0 < x.ahi
  all_goals try (exfalso; omega)
  all_goals
    obtain ⟨A, hA⟩ : ∃ A, strLo x = A := ⟨_, rfl⟩
    obtain ⟨B, hB⟩ : ∃ B, strHi x = B := ⟨_, rfl⟩
    rw [hA, hB]
    unfold strLo at hA
    unfold strHi at hB
    first | rw [if_pos p] at hA | rw [if_neg p] at hA
    first | rw [if_pos q] at hB | rw [if_neg q] at hB
    subst hA hB
    have t : x.alo ≤ 0 ∨ 0 < x.alo + x.whi := by omega
    go_enter Try.func64, Try.ntmps64
    go_wp2_with (go_at_call 85; refine (up_any _ _ _ (by omega) (by omega) (by omega) (by omega)).mono ?_; rintro e w1 ⟨rfl, rfl⟩)
    refine bodyPost_ret  (by simp [results, Try.results64, go_sem]) rfl ⟨rfl, ?_⟩
    exact (below_alloc _ _).alloc (by simp) _
set_option maxRecDepth 100000 in
set_option maxHeartbeats 2000000 in
theorem rstrength_any (x : Cont) (w : World) (hx : contB x = true) :
    Calls Try.prog 70 #[x.val] w fun e w' => e = .returned (.agg #[.int .i64 (strLo x), .int .i64 (strHi x)]) ∧ Below w.heap.size w w' := by
  obtain ⟨⟨d0, d1⟩, ⟨x0, x1, x2⟩, y0, y1, y2⟩ := contB_t hx
  clear hx
  unfold Cont.val
  by_cases p : 0 < x.alo <;> by_cases q : 0 < x.ahi
  all_goals try (exfalso; omega)
  all_goals
    obtain ⟨A, hA⟩ : ∃ A, strLo x = A := ⟨_, rfl⟩
    obtain ⟨B, hB⟩ : ∃ B, strHi x = B := ⟨_, rfl⟩
    rw [hA, hB]
    unfold strLo at hA
    unfold strHi at hB
    first | rw [if_pos p] at hA | rw [if_neg p] at hA
    first | rw [if_pos q] at hB | rw [if_neg q] at hB
    subst hA hB
    have t : x.alo ≤ 0 ∨ 0 < x.alo + x.whi := by omega
    go_enter Try.func70, Try.ntmps70
    go_wp2_with (go_at_call 62; refine (rup_any _ _ _ (by omega) (by omega) (by omega) (by omega)).mono ?_; rintro e w1 ⟨rfl, rfl⟩)
    refine bodyPost_ret  (by simp [results, Try.results70, go_sem]) rfl ⟨rfl, ?_⟩
    exact ((below_alloc _ _).alloc (by simp) _).alloc (by simp; omega) _
set_option maxRecDepth 100000 in
set_option maxHeartbeats 1000000 in
theorem Strength_ok (x : Cont) (w : World) (hx : contB x = true) :
    Calls Try.prog 33 #[x.val] w fun e w' => e = .returned (.tuple #[.agg #[.int .i64 (strLo x), .int .i64 (strHi x)], .int .i64 0]) ∧ Below w.heap.size w w' := by
  have SV := fun W => strength_any x W hx
  have HX := Lib.hid hx; clear hx
  have HS := Lib.hid SV; clear SV
  unfold Cont.val at HS ⊢
  obtain ⟨W1, hW1⟩ : ∃ W1, (w.alloc (.cells #[.int .i64 x.day, .int .i64 x.alo, .int .i64 x.ahi, .int .i64 x.wlo, .int .i64 x.whi] 28)).alloc (.cells #[.int .i64 0, .int .i64 0] 26) = W1 := ⟨_, rfl⟩
  have hBc : Below w.heap.size w W1 := by rw [← hW1]; exact (below_alloc _ _).alloc (by simp) _
  have zc0 : W1.heap[w.heap.size]? = some (.cells #[.int .i64 x.day, .int .i64 x.alo, .int .i64 x.ahi, .int .i64 x.wlo, .int .i64 x.whi] 28 (0, 0)) := by rw [← hW1]; exact alloc_keep (alloc_at rfl)
  have zc1 : W1.heap[w.heap.size + 1]? = some (.cells #[.int .i64 0, .int .i64 0] 26 (0, 0)) := by rw [← hW1]; exact alloc_at (by simp)
  have c00 : W1.cell? ⟨w.heap.size, 0, none⟩ = some (.int .i64 x.day) := cell_of_block zc0 0 (by simp)
  have c01 : W1.cell? ⟨w.heap.size, 1, none⟩ = some (.int .i64 x.alo) := cell_of_block zc0 1 (by simp)
  have c02 : W1.cell? ⟨w.heap.size, 2, none⟩ = some (.int .i64 x.ahi) := cell_of_block zc0 2 (by simp)
  have c03 : W1.cell? ⟨w.heap.size, 3, none⟩ = some (.int .i64 x.wlo) := cell_of_block zc0 3 (by simp)
  have c04 : W1.cell? ⟨w.heap.size, 4, none⟩ = some (.int .i64 x.whi) := cell_of_block zc0 4 (by simp)
  have c10 : W1.cell? ⟨w.heap.size + 1, 0, none⟩ = some (.int .i64 0) := cell_of_block zc1 0 (by simp)
  have c11 : W1.cell? ⟨w.heap.size + 1, 1, none⟩ = some (.int .i64 0) := cell_of_block zc1 1 (by simp)
  have lc0 := (Array.getElem?_eq_some_iff.1 zc0).1
  have lc1 := (Array.getElem?_eq_some_iff.1 zc1).1
  have fc10 := frozen_of_block zc1 0
  have fc11 := frozen_of_block zc1 1
  clear zc0 zc1
  have HBc := Lib.hid hBc; clear hBc
  have HWc := Lib.hid hW1; clear hW1
  generalize strLo x = A at *
  generalize strHi x = B at *
  go_enter Try.func33, Try.ntmps33
  go_wp2_with fail
  rw [HWc.out]
  go_wp2_with fail
  refine (Calls.grown (isContent_b x _ HX.out)).mono ?_
  rintro e w1 ⟨rfl, z1, rfl⟩
  go_wp2_with fail
  refine (Calls.gw_of (HS.out _)).mono ?_
  rintro e w1 ⟨rfl, z2, rfl⟩
  go_wp2_with fail
  refine bodyPost_ret (v := .tuple #[.agg #[.int .i64 A, .int .i64 B], .int .i64 0]) (by simp [results, Try.results33, go_sem, *]) rfl ⟨rfl, ?_⟩
  exact ((HBc.out.gw z2).setCell (by simp) _).setCell (by simp) _

end Go.Proofs.Ytljofnmgddfljaa
