/- Contract of sample; closed facts of the document's examples. No conditions beyond each theorem's own. -/
import Derived.Test.YtdcpgjepgajioaaCc
import Derived.Test.YtdcpgjepgajioaaBz
import Derived.Test.YtdcpgjepgajioaaBt
import Derived.Test.YtdcpgjepgajioaaCa
set_option linter.unusedVariables false
set_option linter.unusedSimpArgs false
set_option linter.unusedSectionVars false
set_option linter.constructorNameAsVariable false
namespace Go.Proofs.Ytdcpgjepgajioaa
open Go.RowKit

attribute [local go_sem] gw_cell gw_frozen gw_size

def sampO (b : Nat) : Otl := ⟨some ⟨b + 1 + 1, 0, none⟩, 3, 3, fun i => [100, 50, 40].getD i 0, 9000, 9800, some ⟨b + 1 + 1 + 1, 0, none⟩, 2, 2, fun i => [1, 3].getD i 0, some ⟨b + 1 + 1 + 1 + 1 + 1 + 1 + 1 + 1 + 1 + 1 + 1 + 1, 0, none⟩, 2, 2,
  fun i => some ⟨[b + 1 + 1 + 1 + 1 + 1 + 1 + 1, b + 1 + 1 + 1 + 1 + 1 + 1 + 1 + 1 + 1 + 1 + 1].getD i 0, 0, none⟩, fun _ => 3, fun _ => 3, fun i t => some ⟨([[b + 1 + 1 + 1 + 1, b + 1 + 1 + 1 + 1 + 1, b + 1 + 1 + 1 + 1 + 1 + 1], [b + 1 + 1 + 1 + 1 + 1 + 1 + 1 + 1, b + 1 + 1 + 1 + 1 + 1 + 1 + 1 + 1 + 1, b + 1 + 1 + 1 + 1 + 1 + 1 + 1 + 1 + 1 + 1]].getD i []).getD t 0, 0, none⟩, fun _ _ => 2, fun _ _ => 2,
  fun i t p => (([[[30, 0], [40, 20], [40, 30]], [[50, 0], [20, 0], [90, 30]]].getD i []).getD t []).getD p 0⟩
def sampY (b : Nat) : Lyg := ⟨some ⟨b + 1 + 1 + 1 + 1 + 1 + 1 + 1 + 1 + 1 + 1 + 1 + 1 + 1 + 1, 0, none⟩, 3, 3, fun i => [5, 6, 7].getD i 0, some ⟨b + 1 + 1 + 1 + 1 + 1 + 1 + 1 + 1 + 1 + 1 + 1 + 1 + 1 + 1 + 1, 0, none⟩, 3, 3, fun i => [2, 2, 2].getD i 0, 40, 300⟩
theorem sampO_fits (b : Nat) : (sampO b).Fits := ⟨by show 3 ≤ _; omega, by show 2 ≤ _; omega, by show 2 ≤ _; omega, fun i _ => by show 3 ≤ _; omega, fun i _ t _ => by show 2 ≤ _; omega⟩
theorem sampY_fits (b : Nat) : (sampY b).Fits := ⟨by show 3 ≤ _; omega, by show 3 ≤ _; omega⟩
theorem samp_outB (b : Nat) : outB (sampO b) = true := by kernel_rfl
theorem samp_layB (b : Nat) : layB (sampO b) (sampY b) = true := by kernel_rfl
def samp1 (i : Nat) : Int := [1, 0, 0].getD i 0
def samp0 (i : Nat) : Int := [0, 0, 0].getD i 0
theorem samp_leftE (b : Nat) : leftE (sampO b) (sampY b) 3 samp1 1 = 0 := by kernel_rfl
theorem samp_leftY (b : Nat) : leftY (sampO b) (sampY b) 3 samp1 1 = 3 := by kernel_rfl
theorem samp_row2 (b : Nat) : ((sampO b).leftRow (sampY b) 1 samp1 2).getD 2 0 = 5 := by kernel_rfl
theorem samp_row4 (b : Nat) : ((sampO b).leftRow (sampY b) 1 samp1 2).getD 4 0 = 2 := by kernel_rfl
theorem samp_keepsP (b : Nat) : keepsP (sampO b) (sampY b) 3 samp0 = 1 := by kernel_rfl
theorem samp_keepsY (b : Nat) : keepsY (sampO b) (sampY b) 3 samp0 = 2 := by kernel_rfl
theorem samp_keepsE (b : Nat) : keepsE (sampO b) (sampY b) 3 samp0 = 10 := by kernel_rfl
theorem samp_find (b : Nat) : findF (sampO b) (sampY b) (sampY b).R = some ([1, 0, 0], 5) := by kernel_rfl
theorem samp_few (b : Nat) : findF (sampO b) (sampY b) (fun _ => 1) = some ([0, 1, 0], 1) := by kernel_rfl
theorem samp_ch (b : Nat) : chE (sampO b) (sampY b) (sampY b).R = 0 ∧ chL (sampO b) (sampY b) (sampY b).R = [1, 0, 0] ∧ chS (sampO b) (sampY b) (sampY b).R = 5 := ch_some ⟨samp_outB b, samp_layB b⟩ (samp_find b)
theorem samp_fw (b : Nat) : chE (sampO b) (sampY b) (fun _ => 1) = 0 ∧ chL (sampO b) (sampY b) (fun _ => 1) = [0, 1, 0] ∧ chS (sampO b) (sampY b) (fun _ => 1) = 1 := ch_some ⟨samp_outB b, samp_layB b⟩ (samp_few b)
theorem ints_lit {w : World} {b n : Nat} {t : TypeId} {cs : Array Value} (L : Nat → Int) (h : w.heap[b]? = some (.cells cs t (0, 0))) (hn : n = cs.size) (hc : ∀ i (hi : i < cs.size), cs[i] = .int .i64 (L i)) : IntsAt w (some ⟨b, 0, none⟩) n L :=
  .inr ⟨b, 0, rfl, (Array.getElem?_eq_some_iff.1 h).1, fun i hi => by
    rw [Nat.zero_add]
    have hi2 : i < cs.size := by omega
    exact (cell_of_block h i hi2).trans (by rw [hc i hi2])⟩
theorem cells_lit {w : World} {b n : Nat} {t : TypeId} {cs : Array Value} (L : Nat → Value) (h : w.heap[b]? = some (.cells cs t (0, 0))) (hn : n = cs.size) (hc : ∀ i (hi : i < cs.size), cs[i] = L i) : CellsAt w (some ⟨b, 0, none⟩) n L :=
  .inr ⟨b, 0, rfl, (Array.getElem?_eq_some_iff.1 h).1, fun i hi => by
    rw [Nat.zero_add]
    have hi2 : i < cs.size := by omega
    exact (cell_of_block h i hi2).trans (by rw [hc i hi2])⟩
def Sampled (w : World) (e : Ending) (w' : World) : Prop := ∃ b, e = .returned (.tuple #[(sampO b).val, (sampY b).val]) ∧ (sampO b).In w' ∧ (sampY b).In w' ∧ Below w.heap.size w w'

set_option maxRecDepth 100000 in
set_option maxHeartbeats 4000000 in
theorem sample_any (w : World) : Calls Try.prog 29 #[] w (Sampled w) := by
  obtain ⟨W1, hW1⟩ : ∃ W1, (((((((((((((((w.alloc (.cells #[.slice (some ⟨w.heap.size + 1 + 1, 0, none⟩) 3 3, .int .i64 9000, .int .i64 9800, .slice (some ⟨w.heap.size + 1 + 1 + 1, 0, none⟩) 2 2, .slice (some ⟨w.heap.size + 1 + 1 + 1 + 1 + 1 + 1 + 1 + 1 + 1 + 1 + 1 + 1, 0, none⟩) 2 2] 27)).alloc (.cells #[.slice (some ⟨w.heap.size + 1 + 1 + 1 + 1 + 1 + 1 + 1 + 1 + 1 + 1 + 1 + 1 + 1 + 1, 0, none⟩) 3 3, .slice (some ⟨w.heap.size + 1 + 1 + 1 + 1 + 1 + 1 + 1 + 1 + 1 + 1 + 1 + 1 + 1 + 1 + 1, 0, none⟩) 3 3, .int .i64 40, .int .i64 300] 29)).alloc (.cells #[.int .i64 100, .int .i64 50, .int .i64 40] 3)).alloc (.cells #[.int .i64 1, .int .i64 3] 3)).alloc (.cells #[.int .i64 30, .int .i64 0] 3)).alloc (.cells #[.int .i64 40, .int .i64 20] 3)).alloc (.cells #[.int .i64 40, .int .i64 30] 3)).alloc (.cells #[.slice (some ⟨w.heap.size + 1 + 1 + 1 + 1, 0, none⟩) 2 2, .slice (some ⟨w.heap.size + 1 + 1 + 1 + 1 + 1, 0, none⟩) 2 2, .slice (some ⟨w.heap.size + 1 + 1 + 1 + 1 + 1 + 1, 0, none⟩) 2 2] 22)).alloc (.cells #[.int .i64 50, .int .i64 0] 3)).alloc (.cells #[.int .i64 20, .int .i64 0] 3)).alloc (.cells #[.int .i64 90, .int .i64 30] 3)).alloc (.cells #[.slice (some ⟨w.heap.size + 1 + 1 + 1 + 1 + 1 + 1 + 1 + 1, 0, none⟩) 2 2, .slice (some ⟨w.heap.size + 1 + 1 + 1 + 1 + 1 + 1 + 1 + 1 + 1, 0, none⟩) 2 2, .slice (some ⟨w.heap.size + 1 + 1 + 1 + 1 + 1 + 1 + 1 + 1 + 1 + 1, 0, none⟩) 2 2] 22)).alloc (.cells #[.slice (some ⟨w.heap.size + 1 + 1 + 1 + 1 + 1 + 1 + 1, 0, none⟩) 3 3, .slice (some ⟨w.heap.size + 1 + 1 + 1 + 1 + 1 + 1 + 1 + 1 + 1 + 1 + 1, 0, none⟩) 3 3] 32)).alloc (.cells #[.slice (some ⟨w.heap.size + 1 + 1, 0, none⟩) 3 3, .int .i64 9000, .int .i64 9800, .slice (some ⟨w.heap.size + 1 + 1 + 1, 0, none⟩) 2 2, .slice (some ⟨w.heap.size + 1 + 1 + 1 + 1 + 1 + 1 + 1 + 1 + 1 + 1 + 1 + 1, 0, none⟩) 2 2] 27)).alloc (.cells #[.int .i64 5, .int .i64 6, .int .i64 7] 3)).alloc (.cells #[.int .i64 2, .int .i64 2, .int .i64 2] 3) = W1 := ⟨_, rfl⟩
  have hBc : Below w.heap.size w W1 := by rw [← hW1]; exact (((((((((((((((below_alloc _ _).alloc (by simp) _).alloc (by simp <;> omega) _).alloc (by simp <;> omega) _).alloc (by simp <;> omega) _).alloc (by simp <;> omega) _).alloc (by simp <;> omega) _).alloc (by simp <;> omega) _).alloc (by simp <;> omega) _).alloc (by simp <;> omega) _).alloc (by simp <;> omega) _).alloc (by simp <;> omega) _).alloc (by simp <;> omega) _).alloc (by simp <;> omega) _).alloc (by simp <;> omega) _).alloc (by simp <;> omega) _
  have zc0 : W1.heap[w.heap.size]? = some (.cells #[.slice (some ⟨w.heap.size + 1 + 1, 0, none⟩) 3 3, .int .i64 9000, .int .i64 9800, .slice (some ⟨w.heap.size + 1 + 1 + 1, 0, none⟩) 2 2, .slice (some ⟨w.heap.size + 1 + 1 + 1 + 1 + 1 + 1 + 1 + 1 + 1 + 1 + 1 + 1, 0, none⟩) 2 2] 27 (0, 0)) := by rw [← hW1]; exact alloc_keep (alloc_keep (alloc_keep (alloc_keep (alloc_keep (alloc_keep (alloc_keep (alloc_keep (alloc_keep (alloc_keep (alloc_keep (alloc_keep (alloc_keep (alloc_keep (alloc_keep (alloc_at rfl)))))))))))))))
  have zc1 : W1.heap[w.heap.size + 1]? = some (.cells #[.slice (some ⟨w.heap.size + 1 + 1 + 1 + 1 + 1 + 1 + 1 + 1 + 1 + 1 + 1 + 1 + 1 + 1, 0, none⟩) 3 3, .slice (some ⟨w.heap.size + 1 + 1 + 1 + 1 + 1 + 1 + 1 + 1 + 1 + 1 + 1 + 1 + 1 + 1 + 1, 0, none⟩) 3 3, .int .i64 40, .int .i64 300] 29 (0, 0)) := by rw [← hW1]; exact alloc_keep (alloc_keep (alloc_keep (alloc_keep (alloc_keep (alloc_keep (alloc_keep (alloc_keep (alloc_keep (alloc_keep (alloc_keep (alloc_keep (alloc_keep (alloc_keep (alloc_at (by simp)))))))))))))))
  have zc2 : W1.heap[w.heap.size + 1 + 1]? = some (.cells #[.int .i64 100, .int .i64 50, .int .i64 40] 3 (0, 0)) := by rw [← hW1]; exact alloc_keep (alloc_keep (alloc_keep (alloc_keep (alloc_keep (alloc_keep (alloc_keep (alloc_keep (alloc_keep (alloc_keep (alloc_keep (alloc_keep (alloc_keep (alloc_at (by simp <;> omega))))))))))))))
  have zc3 : W1.heap[w.heap.size + 1 + 1 + 1]? = some (.cells #[.int .i64 1, .int .i64 3] 3 (0, 0)) := by rw [← hW1]; exact alloc_keep (alloc_keep (alloc_keep (alloc_keep (alloc_keep (alloc_keep (alloc_keep (alloc_keep (alloc_keep (alloc_keep (alloc_keep (alloc_keep (alloc_at (by simp <;> omega)))))))))))))
  have zc4 : W1.heap[w.heap.size + 1 + 1 + 1 + 1]? = some (.cells #[.int .i64 30, .int .i64 0] 3 (0, 0)) := by rw [← hW1]; exact alloc_keep (alloc_keep (alloc_keep (alloc_keep (alloc_keep (alloc_keep (alloc_keep (alloc_keep (alloc_keep (alloc_keep (alloc_keep (alloc_at (by simp <;> omega))))))))))))
  have zc5 : W1.heap[w.heap.size + 1 + 1 + 1 + 1 + 1]? = some (.cells #[.int .i64 40, .int .i64 20] 3 (0, 0)) := by rw [← hW1]; exact alloc_keep (alloc_keep (alloc_keep (alloc_keep (alloc_keep (alloc_keep (alloc_keep (alloc_keep (alloc_keep (alloc_keep (alloc_at (by simp <;> omega)))))))))))
  have zc6 : W1.heap[w.heap.size + 1 + 1 + 1 + 1 + 1 + 1]? = some (.cells #[.int .i64 40, .int .i64 30] 3 (0, 0)) := by rw [← hW1]; exact alloc_keep (alloc_keep (alloc_keep (alloc_keep (alloc_keep (alloc_keep (alloc_keep (alloc_keep (alloc_keep (alloc_at (by simp <;> omega))))))))))
  have zc7 : W1.heap[w.heap.size + 1 + 1 + 1 + 1 + 1 + 1 + 1]? = some (.cells #[.slice (some ⟨w.heap.size + 1 + 1 + 1 + 1, 0, none⟩) 2 2, .slice (some ⟨w.heap.size + 1 + 1 + 1 + 1 + 1, 0, none⟩) 2 2, .slice (some ⟨w.heap.size + 1 + 1 + 1 + 1 + 1 + 1, 0, none⟩) 2 2] 22 (0, 0)) := by rw [← hW1]; exact alloc_keep (alloc_keep (alloc_keep (alloc_keep (alloc_keep (alloc_keep (alloc_keep (alloc_keep (alloc_at (by simp <;> omega)))))))))
  have zc8 : W1.heap[w.heap.size + 1 + 1 + 1 + 1 + 1 + 1 + 1 + 1]? = some (.cells #[.int .i64 50, .int .i64 0] 3 (0, 0)) := by rw [← hW1]; exact alloc_keep (alloc_keep (alloc_keep (alloc_keep (alloc_keep (alloc_keep (alloc_keep (alloc_at (by simp <;> omega))))))))
  have zc9 : W1.heap[w.heap.size + 1 + 1 + 1 + 1 + 1 + 1 + 1 + 1 + 1]? = some (.cells #[.int .i64 20, .int .i64 0] 3 (0, 0)) := by rw [← hW1]; exact alloc_keep (alloc_keep (alloc_keep (alloc_keep (alloc_keep (alloc_keep (alloc_at (by simp <;> omega)))))))
  have zc10 : W1.heap[w.heap.size + 1 + 1 + 1 + 1 + 1 + 1 + 1 + 1 + 1 + 1]? = some (.cells #[.int .i64 90, .int .i64 30] 3 (0, 0)) := by rw [← hW1]; exact alloc_keep (alloc_keep (alloc_keep (alloc_keep (alloc_keep (alloc_at (by simp <;> omega))))))
  have zc11 : W1.heap[w.heap.size + 1 + 1 + 1 + 1 + 1 + 1 + 1 + 1 + 1 + 1 + 1]? = some (.cells #[.slice (some ⟨w.heap.size + 1 + 1 + 1 + 1 + 1 + 1 + 1 + 1, 0, none⟩) 2 2, .slice (some ⟨w.heap.size + 1 + 1 + 1 + 1 + 1 + 1 + 1 + 1 + 1, 0, none⟩) 2 2, .slice (some ⟨w.heap.size + 1 + 1 + 1 + 1 + 1 + 1 + 1 + 1 + 1 + 1, 0, none⟩) 2 2] 22 (0, 0)) := by rw [← hW1]; exact alloc_keep (alloc_keep (alloc_keep (alloc_keep (alloc_at (by simp <;> omega)))))
  have zc12 : W1.heap[w.heap.size + 1 + 1 + 1 + 1 + 1 + 1 + 1 + 1 + 1 + 1 + 1 + 1]? = some (.cells #[.slice (some ⟨w.heap.size + 1 + 1 + 1 + 1 + 1 + 1 + 1, 0, none⟩) 3 3, .slice (some ⟨w.heap.size + 1 + 1 + 1 + 1 + 1 + 1 + 1 + 1 + 1 + 1 + 1, 0, none⟩) 3 3] 32 (0, 0)) := by rw [← hW1]; exact alloc_keep (alloc_keep (alloc_keep (alloc_at (by simp <;> omega))))
  have zc13 : W1.heap[w.heap.size + 1 + 1 + 1 + 1 + 1 + 1 + 1 + 1 + 1 + 1 + 1 + 1 + 1]? = some (.cells #[.slice (some ⟨w.heap.size + 1 + 1, 0, none⟩) 3 3, .int .i64 9000, .int .i64 9800, .slice (some ⟨w.heap.size + 1 + 1 + 1, 0, none⟩) 2 2, .slice (some ⟨w.heap.size + 1 + 1 + 1 + 1 + 1 + 1 + 1 + 1 + 1 + 1 + 1 + 1, 0, none⟩) 2 2] 27 (0, 0)) := by rw [← hW1]; exact alloc_keep (alloc_keep (alloc_at (by simp <;> omega)))
  have zc14 : W1.heap[w.heap.size + 1 + 1 + 1 + 1 + 1 + 1 + 1 + 1 + 1 + 1 + 1 + 1 + 1 + 1]? = some (.cells #[.int .i64 5, .int .i64 6, .int .i64 7] 3 (0, 0)) := by rw [← hW1]; exact alloc_keep (alloc_at (by simp <;> omega))
  have zc15 : W1.heap[w.heap.size + 1 + 1 + 1 + 1 + 1 + 1 + 1 + 1 + 1 + 1 + 1 + 1 + 1 + 1 + 1]? = some (.cells #[.int .i64 2, .int .i64 2, .int .i64 2] 3 (0, 0)) := by rw [← hW1]; exact alloc_at (by simp <;> omega)
  have c00 : W1.cell? ⟨w.heap.size, 0, none⟩ = some (.slice (some ⟨w.heap.size + 1 + 1, 0, none⟩) 3 3) := cell_of_block zc0 0 (by simp)
  have c01 : W1.cell? ⟨w.heap.size, 1, none⟩ = some (.int .i64 9000) := cell_of_block zc0 1 (by simp)
  have c02 : W1.cell? ⟨w.heap.size, 2, none⟩ = some (.int .i64 9800) := cell_of_block zc0 2 (by simp)
  have c03 : W1.cell? ⟨w.heap.size, 3, none⟩ = some (.slice (some ⟨w.heap.size + 1 + 1 + 1, 0, none⟩) 2 2) := cell_of_block zc0 3 (by simp)
  have c04 : W1.cell? ⟨w.heap.size, 4, none⟩ = some (.slice (some ⟨w.heap.size + 1 + 1 + 1 + 1 + 1 + 1 + 1 + 1 + 1 + 1 + 1 + 1, 0, none⟩) 2 2) := cell_of_block zc0 4 (by simp)
  have c10 : W1.cell? ⟨w.heap.size + 1, 0, none⟩ = some (.slice (some ⟨w.heap.size + 1 + 1 + 1 + 1 + 1 + 1 + 1 + 1 + 1 + 1 + 1 + 1 + 1 + 1, 0, none⟩) 3 3) := cell_of_block zc1 0 (by simp)
  have c11 : W1.cell? ⟨w.heap.size + 1, 1, none⟩ = some (.slice (some ⟨w.heap.size + 1 + 1 + 1 + 1 + 1 + 1 + 1 + 1 + 1 + 1 + 1 + 1 + 1 + 1 + 1, 0, none⟩) 3 3) := cell_of_block zc1 1 (by simp)
  have c12 : W1.cell? ⟨w.heap.size + 1, 2, none⟩ = some (.int .i64 40) := cell_of_block zc1 2 (by simp)
  have c13 : W1.cell? ⟨w.heap.size + 1, 3, none⟩ = some (.int .i64 300) := cell_of_block zc1 3 (by simp)
  have c130 : W1.cell? ⟨w.heap.size + 1 + 1 + 1 + 1 + 1 + 1 + 1 + 1 + 1 + 1 + 1 + 1 + 1, 0, none⟩ = some (.slice (some ⟨w.heap.size + 1 + 1, 0, none⟩) 3 3) := cell_of_block zc13 0 (by simp)
  have c131 : W1.cell? ⟨w.heap.size + 1 + 1 + 1 + 1 + 1 + 1 + 1 + 1 + 1 + 1 + 1 + 1 + 1, 1, none⟩ = some (.int .i64 9000) := cell_of_block zc13 1 (by simp)
  have c132 : W1.cell? ⟨w.heap.size + 1 + 1 + 1 + 1 + 1 + 1 + 1 + 1 + 1 + 1 + 1 + 1 + 1, 2, none⟩ = some (.int .i64 9800) := cell_of_block zc13 2 (by simp)
  have c133 : W1.cell? ⟨w.heap.size + 1 + 1 + 1 + 1 + 1 + 1 + 1 + 1 + 1 + 1 + 1 + 1 + 1, 3, none⟩ = some (.slice (some ⟨w.heap.size + 1 + 1 + 1, 0, none⟩) 2 2) := cell_of_block zc13 3 (by simp)
  have c134 : W1.cell? ⟨w.heap.size + 1 + 1 + 1 + 1 + 1 + 1 + 1 + 1 + 1 + 1 + 1 + 1 + 1, 4, none⟩ = some (.slice (some ⟨w.heap.size + 1 + 1 + 1 + 1 + 1 + 1 + 1 + 1 + 1 + 1 + 1 + 1, 0, none⟩) 2 2) := cell_of_block zc13 4 (by simp)
  have lc0 := (Array.getElem?_eq_some_iff.1 zc0).1
  have lc1 := (Array.getElem?_eq_some_iff.1 zc1).1
  have lc2 := (Array.getElem?_eq_some_iff.1 zc2).1
  have lc3 := (Array.getElem?_eq_some_iff.1 zc3).1
  have lc4 := (Array.getElem?_eq_some_iff.1 zc4).1
  have lc5 := (Array.getElem?_eq_some_iff.1 zc5).1
  have lc6 := (Array.getElem?_eq_some_iff.1 zc6).1
  have lc7 := (Array.getElem?_eq_some_iff.1 zc7).1
  have lc8 := (Array.getElem?_eq_some_iff.1 zc8).1
  have lc9 := (Array.getElem?_eq_some_iff.1 zc9).1
  have lc10 := (Array.getElem?_eq_some_iff.1 zc10).1
  have lc11 := (Array.getElem?_eq_some_iff.1 zc11).1
  have lc12 := (Array.getElem?_eq_some_iff.1 zc12).1
  have lc13 := (Array.getElem?_eq_some_iff.1 zc13).1
  have lc14 := (Array.getElem?_eq_some_iff.1 zc14).1
  have lc15 := (Array.getElem?_eq_some_iff.1 zc15).1
  have fc00 := frozen_of_block zc0 0
  have fc01 := frozen_of_block zc0 1
  have fc02 := frozen_of_block zc0 2
  have fc03 := frozen_of_block zc0 3
  have fc04 := frozen_of_block zc0 4
  have fc10 := frozen_of_block zc1 0
  have fc11 := frozen_of_block zc1 1
  have fc12 := frozen_of_block zc1 2
  have fc13 := frozen_of_block zc1 3
  have Zc2 := Lib.hid zc2
  have Zc3 := Lib.hid zc3
  have Zc4 := Lib.hid zc4
  have Zc5 := Lib.hid zc5
  have Zc6 := Lib.hid zc6
  have Zc7 := Lib.hid zc7
  have Zc8 := Lib.hid zc8
  have Zc9 := Lib.hid zc9
  have Zc10 := Lib.hid zc10
  have Zc11 := Lib.hid zc11
  have Zc12 := Lib.hid zc12
  have Zc13 := Lib.hid zc13
  have Zc14 := Lib.hid zc14
  have Zc15 := Lib.hid zc15
  clear zc0 zc1 zc2 zc3 zc4 zc5 zc6 zc7 zc8 zc9 zc10 zc11 zc12 zc13 zc14 zc15
  have HBc := Lib.hid hBc; clear hBc
  have HWc := Lib.hid hW1; clear hW1
  go_enter Try.func29, Try.ntmps29
  go_wp2_with fail
  rw [HWc.out]
  refine bodyPost_ret (v := .tuple #[.agg #[.slice (some ⟨w.heap.size + 1 + 1, 0, none⟩) 3 3, .int .i64 9000, .int .i64 9800, .slice (some ⟨w.heap.size + 1 + 1 + 1, 0, none⟩) 2 2, .slice (some ⟨w.heap.size + 1 + 1 + 1 + 1 + 1 + 1 + 1 + 1 + 1 + 1 + 1 + 1, 0, none⟩) 2 2], .agg #[.slice (some ⟨w.heap.size + 1 + 1 + 1 + 1 + 1 + 1 + 1 + 1 + 1 + 1 + 1 + 1 + 1 + 1, 0, none⟩) 3 3, .slice (some ⟨w.heap.size + 1 + 1 + 1 + 1 + 1 + 1 + 1 + 1 + 1 + 1 + 1 + 1 + 1 + 1 + 1, 0, none⟩) 3 3, .int .i64 40, .int .i64 300]]) (by simp [results, Try.results29, go_sem, *]) rfl ⟨w.heap.size, rfl, ?_, ?_, HBc.out⟩
  · refine ⟨ints_lit _ Zc2.out rfl (fun i hi => by match i, hi with | 0, _ => rfl | 1, _ => rfl | 2, _ => rfl), ints_lit _ Zc3.out rfl (fun i hi => by match i, hi with | 0, _ => rfl | 1, _ => rfl), cells_lit _ Zc12.out rfl (fun i hi => by match i, hi with | 0, _ => rfl | 1, _ => rfl), fun i hi => ?_, fun i hi t ht => ?_⟩
    · match i, (show i < 2 from hi) with
      | 0, _ => exact cells_lit _ Zc7.out rfl (fun i hi => by match i, hi with | 0, _ => rfl | 1, _ => rfl | 2, _ => rfl)
      | 1, _ => exact cells_lit _ Zc11.out rfl (fun i hi => by match i, hi with | 0, _ => rfl | 1, _ => rfl | 2, _ => rfl)
    · match i, (show i < 2 from hi), t, (show t < 3 from ht) with
      | 0, _, 0, _ => exact ints_lit _ Zc4.out rfl (fun i hi => by match i, hi with | 0, _ => rfl | 1, _ => rfl)
      | 0, _, 1, _ => exact ints_lit _ Zc5.out rfl (fun i hi => by match i, hi with | 0, _ => rfl | 1, _ => rfl)
      | 0, _, 2, _ => exact ints_lit _ Zc6.out rfl (fun i hi => by match i, hi with | 0, _ => rfl | 1, _ => rfl)
      | 1, _, 0, _ => exact ints_lit _ Zc8.out rfl (fun i hi => by match i, hi with | 0, _ => rfl | 1, _ => rfl)
      | 1, _, 1, _ => exact ints_lit _ Zc9.out rfl (fun i hi => by match i, hi with | 0, _ => rfl | 1, _ => rfl)
      | 1, _, 2, _ => exact ints_lit _ Zc10.out rfl (fun i hi => by match i, hi with | 0, _ => rfl | 1, _ => rfl)
  · exact ⟨ints_lit _ Zc14.out rfl (fun i hi => by match i, hi with | 0, _ => rfl | 1, _ => rfl | 2, _ => rfl), ints_lit _ Zc15.out rfl (fun i hi => by match i, hi with | 0, _ => rfl | 1, _ => rfl | 2, _ => rfl)⟩
end Go.Proofs.Ytdcpgjepgajioaa
