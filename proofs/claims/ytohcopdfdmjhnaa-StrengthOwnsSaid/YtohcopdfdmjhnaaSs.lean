/- Contract of Pure. No conditions beyond each theorem's own. -/
import Derived.Test.YtohcopdfdmjhnaaSr
set_option linter.unusedVariables false
set_option linter.unusedSimpArgs false
set_option linter.unusedSectionVars false
set_option linter.constructorNameAsVariable false
namespace Go.Proofs.Ytohcopdfdmjhnaa.L1
open Go.RowKit
open Go.Proofs.Ytohcopdfdmjhnaa

attribute [local go_sem] gw_cell gw_frozen gw_size

def purE (a b c d : Int) : Int := if partB a b c d = true then 0 else 1
def purL (a b c d : Int) : Int := if partB a b c d = true then puLo a c else 0
def purH (a b c d : Int) : Int := if partB a b c d = true then puHi b d else 0
theorem partB_t {a b c d : Int} (h : partB a b c d = true) : 0 ≤ a ∧ a ≤ b ∧ b ≤ 1099511627776 ∧ 0 ≤ c ∧ c ≤ d ∧ d ≤ 10000 := by
  simp only [partB, spanB, Bool.and_eq_true, decide_eq_true_eq] at h
  omega
set_option maxRecDepth 100000 in
set_option maxHeartbeats 1000000 in
theorem Pure_any (a b c d : Int) (w : World) :
    Calls Try.prog 43 #[.agg #[.int .i64 a, .int .i64 b], .agg #[.int .i64 c, .int .i64 d]] w fun e w' => e = .returned (.tuple #[.agg #[.int .i64 (purL a b c d), .int .i64 (purH a b c d)], .int .i64 (purE a b c d)]) ∧ Below w.heap.size w w' := by
  obtain ⟨W1, hW1⟩ : ∃ W1, ((w.alloc (.cells #[.int .i64 a, .int .i64 b] 27)).alloc (.cells #[.int .i64 c, .int .i64 d] 27)).alloc (.cells #[.int .i64 0, .int .i64 0] 27) = W1 := ⟨_, rfl⟩
  have hBc : Below w.heap.size w W1 := by rw [← hW1]; exact ((below_alloc _ _).alloc (by simp) _).alloc (by simp <;> omega) _
  have zc0 : W1.heap[w.heap.size]? = some (.cells #[.int .i64 a, .int .i64 b] 27 (0, 0)) := by rw [← hW1]; exact alloc_keep (alloc_keep (alloc_at rfl))
  have zc1 : W1.heap[w.heap.size + 1]? = some (.cells #[.int .i64 c, .int .i64 d] 27 (0, 0)) := by rw [← hW1]; exact alloc_keep (alloc_at (by simp))
  have zc2 : W1.heap[w.heap.size + 1 + 1]? = some (.cells #[.int .i64 0, .int .i64 0] 27 (0, 0)) := by rw [← hW1]; exact alloc_at (by simp <;> omega)
  have c00 : W1.cell? ⟨w.heap.size, 0, none⟩ = some (.int .i64 a) := cell_of_block zc0 0 (by simp)
  have c01 : W1.cell? ⟨w.heap.size, 1, none⟩ = some (.int .i64 b) := cell_of_block zc0 1 (by simp)
  have c10 : W1.cell? ⟨w.heap.size + 1, 0, none⟩ = some (.int .i64 c) := cell_of_block zc1 0 (by simp)
  have c11 : W1.cell? ⟨w.heap.size + 1, 1, none⟩ = some (.int .i64 d) := cell_of_block zc1 1 (by simp)
  have c20 : W1.cell? ⟨w.heap.size + 1 + 1, 0, none⟩ = some (.int .i64 0) := cell_of_block zc2 0 (by simp)
  have c21 : W1.cell? ⟨w.heap.size + 1 + 1, 1, none⟩ = some (.int .i64 0) := cell_of_block zc2 1 (by simp)
  have lc0 := (Array.getElem?_eq_some_iff.1 zc0).1
  have lc1 := (Array.getElem?_eq_some_iff.1 zc1).1
  have lc2 := (Array.getElem?_eq_some_iff.1 zc2).1
  have fc20 := frozen_of_block zc2 0
  have fc21 := frozen_of_block zc2 1
  clear zc0 zc1 zc2
  have HBc := Lib.hid hBc; clear hBc
  have HWc := Lib.hid hW1; clear hW1
  have IP := Lib.hid (fun w => isPart_any a b c d w)
  cases h : partB a b c d with
  | false =>
    have e1 : purL a b c d = 0 := if_neg (by rw [h]; decide)
    have e2 : purH a b c d = 0 := if_neg (by rw [h]; decide)
    have e3 : purE a b c d = 1 := if_neg (by rw [h]; decide)
    rw [e1, e2, e3]
    rw [h] at IP
    clear h e1 e2 e3
    go_enter Try.func43, Try.ntmps43
    go_upto_region 1 with (fail)
    rw [HWc.out]
    go_wp2_with fail
    refine (Calls.grown (IP.out _)).mono ?_
    rintro e w1 ⟨rfl, z1, rfl⟩
    go_wp2_with fail
    refine bodyPost_ret (v := .tuple #[.agg #[.int .i64 0, .int .i64 0], .int .i64 1]) (by simp [results, Try.results43, go_sem, *]) rfl ⟨rfl, ?_⟩
    exact ((HBc.out.gw z1).setCell (by simp <;> omega) _).setCell (by simp <;> omega) _
  | true =>
    have e1 : purL a b c d = puLo a c := if_pos h
    have e2 : purH a b c d = puHi b d := if_pos h
    have e3 : purE a b c d = 0 := if_pos h
    rw [e1, e2, e3]
    rw [h] at IP
    obtain ⟨q1, q2, q3, q4, q5, q6⟩ := partB_t h
    have PU := Lib.hid (fun w => pure_any a b c d w q1 (by omega) (by omega) q3 q4 (by omega) (by omega) q6)
    clear h e1 e2 e3 q1 q2 q3 q4 q5 q6
    generalize puLo a c = l at *
    generalize puHi b d = u at *
    go_enter Try.func43, Try.ntmps43
    go_upto_region 1 with (fail)
    rw [HWc.out]
    go_wp2_with fail
    refine (Calls.grown (IP.out _)).mono ?_
    rintro e w1 ⟨rfl, z1, rfl⟩
    go_wp2_with fail
    refine (Calls.gw_of (PU.out _)).mono ?_
    rintro e w1 ⟨rfl, z2, rfl⟩
    go_wp2_with fail
    refine bodyPost_ret (v := .tuple #[.agg #[.int .i64 l, .int .i64 u], .int .i64 0]) (by simp [results, Try.results43, go_sem, *]) rfl ⟨rfl, ?_⟩
    exact ((HBc.out.gw z2).setCell (by simp <;> omega) _).setCell (by simp <;> omega) _
end Go.Proofs.Ytohcopdfdmjhnaa.L1
