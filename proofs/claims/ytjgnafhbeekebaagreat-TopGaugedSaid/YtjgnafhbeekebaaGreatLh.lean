/- Contracts of up, plus, pure, isPart, Pure. Contract of Pure. No conditions beyond each theorem's own. -/
import Derived.Test.YtjgnafhbeekebaaGreatLb
import Derived.Test.YtjgnafhbeekebaaGreatLg
set_option linter.unusedVariables false
set_option linter.unusedSimpArgs false
set_option linter.unusedSectionVars false
set_option linter.constructorNameAsVariable false
namespace Go.Proofs.YtjgnafhbeekebaaGreat.L1
open Go.RowKit
open Go.Proofs.YtjgnafhbeekebaaGreat

attribute [local go_sem] gw_cell gw_frozen gw_size

def partB (a b c d : Int) : Bool := spanB a b 0 1099511627776 && spanB c d 0 10000
set_option maxHeartbeats 400000 in
theorem isPart_any (a b c d : Int) (w : World) :
    Calls Tryz.prog 42 #[.agg #[.int .i64 a, .int .i64 b, .int .i64 c, .int .i64 d]] w fun e w' => e = .returned (.bool (partB a b c d)) ∧ Below w.heap.size w w' := by
  obtain ⟨W1, hW1⟩ : ∃ W1, w.alloc (.cells #[.int .i64 a, .int .i64 b, .int .i64 c, .int .i64 d] 87) = W1 := ⟨_, rfl⟩
  have hBc : Below w.heap.size w W1 := by rw [← hW1]; exact below_alloc _ _
  have zc0 : W1.heap[w.heap.size]? = some (.cells #[.int .i64 a, .int .i64 b, .int .i64 c, .int .i64 d] 87 (0, 0)) := by rw [← hW1]; exact alloc_at rfl
  have c00 : W1.cell? ⟨w.heap.size, 0, none⟩ = some (.int .i64 a) := cell_of_block zc0 0 (by simp)
  have c01 : W1.cell? ⟨w.heap.size, 1, none⟩ = some (.int .i64 b) := cell_of_block zc0 1 (by simp)
  have c02 : W1.cell? ⟨w.heap.size, 2, none⟩ = some (.int .i64 c) := cell_of_block zc0 2 (by simp)
  have c03 : W1.cell? ⟨w.heap.size, 3, none⟩ = some (.int .i64 d) := cell_of_block zc0 3 (by simp)
  have lc0 := (Array.getElem?_eq_some_iff.1 zc0).1
  clear zc0
  have HBc := Lib.hid hBc; clear hBc
  have HWc := Lib.hid hW1; clear hW1
  cases h1 : spanB a b 0 1099511627776 with
  | false =>
    have e : partB a b c d = false := by unfold partB; rw [h1]; rfl
    rw [e]
    have I1 := Lib.hid (fun w => isSpan_b (b := false) a b 0 1099511627776 w h1)
    clear h1 e
    go_enter Tryz.func42, Tryz.ntmps42
    go_upto_region 1 with (fail)
    rw [HWc.out]
    go_wp2_with fail
    refine (Calls.grown (I1.out _)).mono ?_
    rintro e w1 ⟨rfl, z1, rfl⟩
    go_wp2_with fail
    refine bodyPost_ret (v := .bool false) (by simp [results, Tryz.results42, go_sem, *]) rfl ⟨rfl, ?_⟩
    exact HBc.out.gw z1
  | true =>
    have e : partB a b c d = spanB c d 0 10000 := by unfold partB; rw [h1]; rfl
    rw [e]
    have I1 := Lib.hid (fun w => isSpan_b (b := true) a b 0 1099511627776 w h1)
    have I2 := Lib.hid (fun w => isSpan_any c d 0 10000 w)
    clear h1 e
    generalize spanB c d 0 10000 = x at *
    go_enter Tryz.func42, Tryz.ntmps42
    go_upto_region 1 with (fail)
    rw [HWc.out]
    go_wp2_with fail
    refine (Calls.grown (I1.out _)).mono ?_
    rintro e w1 ⟨rfl, z1, rfl⟩
    go_wp2_with fail
    refine (Calls.gw_of (I2.out _)).mono ?_
    rintro e w1 ⟨rfl, z2, rfl⟩
    go_wp2_with fail
    refine bodyPost_ret (v := .bool x) (by simp [results, Tryz.results42, go_sem, *]) rfl ⟨rfl, ?_⟩
    exact HBc.out.gw z2

set_option maxHeartbeats 400000 in
theorem up_any (a b : Int) (w : World) (h0 : 0 ≤ a) (h1 : a ≤ 1000000000000000000) (h2 : 1 ≤ b) (h3 : b ≤ 1000000000000000000) :
    Calls Tryz.prog 60 #[.int .i64 a, .int .i64 b] w fun e w' => e = .returned (.int .i64 (upI a b)) ∧ w = w' := by
  have n := upI_nonneg h0 h2
  have l : upI a b ≤ 1000000000000000000 := upI_le h2 (by have := Int.mul_le_mul_of_nonneg_left h2 (show (0 : Int) ≤ 1000000000000000000 by omega); omega)
  have hu := Lib.hid (show (a + b - 1) / b = upI a b from rfl)
  have hq : IntKind.i64.wrap ((a + b - 1) / b) = upI a b := by rw [hu.out, IntKind.wrap_i64]; omega
  go_enter Tryz.func60, Tryz.ntmps60
  go_wp2
  go_ret
  exact ⟨by rw [hu.out]; rfl, rfl⟩

/-- pure alcohol of a span of amounts at a span of strengths -/
def puLo (a c : Int) : Int := a * c / 10000
def puHi (b d : Int) : Int := upI (b * d) 10000
set_option maxRecDepth 100000 in
set_option maxHeartbeats 1000000 in
theorem pure_any (a b c d : Int) (w : World) (a0 : 0 ≤ a) (a1 : a ≤ 1099511627776) (b0 : 0 ≤ b) (b1 : b ≤ 1099511627776) (c0 : 0 ≤ c) (c1 : c ≤ 10000) (d0 : 0 ≤ d) (d1 : d ≤ 10000) :
    Calls Tryz.prog 35 #[.agg #[.int .i64 a, .int .i64 b], .agg #[.int .i64 c, .int .i64 d]] w fun e w' => e = .returned (.agg #[.int .i64 (puLo a c), .int .i64 (puHi b d)]) ∧ Below w.heap.size w w' := by
  have p0 := Int.mul_nonneg a0 c0
  have p1 := Int.mul_le_mul a1 c1 c0 (by omega)
  have q0 := Int.mul_nonneg b0 d0
  have q1 := Int.mul_le_mul b1 d1 d0 (by omega)
  have hp : puLo a c = a * c / 10000 := rfl
  have hq : puHi b d = upI (b * d) 10000 := rfl
  rw [hp, hq]
  obtain ⟨P, hP⟩ : ∃ P, a * c = P := ⟨_, rfl⟩
  obtain ⟨Q, hQ⟩ : ∃ Q, b * d = Q := ⟨_, rfl⟩
  rw [hP] at p0 p1 ⊢
  rw [hQ] at q0 q1 ⊢
  have UP := Lib.hid (fun w => up_any Q 10000 w q0 (by omega) (by omega) (by omega))
  generalize upI Q 10000 = u at *
  clear hp hq
  obtain ⟨W1, hW1⟩ : ∃ W1, ((w.alloc (.cells #[.int .i64 a, .int .i64 b] 27)).alloc (.cells #[.int .i64 c, .int .i64 d] 27)).alloc (.cells #[.int .i64 0, .int .i64 0] 27) = W1 := ⟨_, rfl⟩
  have hBc : Below w.heap.size w W1 := by rw [← hW1]; exact ((below_alloc _ _).alloc (by simp) _).alloc (by simp <;> omega) _
  have zc0 : W1.heap[w.heap.size]? = some (.cells #[.int .i64 a, .int .i64 b] 27 (0, 0)) := by rw [← hW1]; exact alloc_keep (alloc_keep (alloc_at rfl))
  have zc1 : W1.heap[w.heap.size + 1]? = some (.cells #[.int .i64 c, .int .i64 d] 27 (0, 0)) := by rw [← hW1]; exact alloc_keep (alloc_at (by simp))
  have zc2 : W1.heap[w.heap.size + 1 + 1]? = some (.cells #[.int .i64 0, .int .i64 0] 27 (0, 0)) := by rw [← hW1]; exact alloc_at (by simp <;> omega)
  have c00 : W1.cell? ⟨w.heap.size, 0, none⟩ = some (.int .i64 a) := cell_of_block zc0 0 (by simp)
  have c01 : W1.cell? ⟨w.heap.size, 1, none⟩ = some (.int .i64 b) := cell_of_block zc0 1 (by simp)
  have c10 : W1.cell? ⟨w.heap.size + 1, 0, none⟩ = some (.int .i64 c) := cell_of_block zc1 0 (by simp)
  have c11 : W1.cell? ⟨w.heap.size + 1, 1, none⟩ = some (.int .i64 d) := cell_of_block zc1 1 (by simp)
  have c20 : W1.cell? ⟨w.heap.size + 1 + 1, 0, none⟩ = some (.int .i64 0) := cell_of_block zc2 0 (by simp)
  have c21 : W1.cell? ⟨w.heap.size + 1 + 1, 1, none⟩ = some (.int .i64 0) := cell_of_block zc2 1 (by simp)
  have lc0 := (Array.getElem?_eq_some_iff.1 zc0).1
  have lc1 := (Array.getElem?_eq_some_iff.1 zc1).1
  have lc2 := (Array.getElem?_eq_some_iff.1 zc2).1
  have fc20 := frozen_of_block zc2 0
  have fc21 := frozen_of_block zc2 1
  clear zc0 zc1 zc2
  have HBc := Lib.hid hBc; clear hBc
  have HWc := Lib.hid hW1; clear hW1
  go_enter Tryz.func35, Tryz.ntmps35
  go_upto_region 1 with (fail)
  rw [HWc.out]
  refine wp_region_gw_tail 13 (by kernel_rfl) (by kernel_rfl) ?_
  simp only [List.take_succ_cons, List.take_zero]
  repeat (go_big_quiet_step ((go_at_call 60; with_reducible exact Calls.gw_of ((UP.out _).mono (by rintro e w' ⟨rfl, rfl⟩; exact ⟨rfl, Below.refl _ _⟩)))))
  refine wpQuiet_nil ?_
  rintro _ ⟨z1, rfl⟩
  simp only [List.drop_succ_cons, List.drop_zero]
  go_wp2_with fail
  refine bodyPost_ret (v := .agg #[.int .i64 (P / 10000), .int .i64 u]) (by simp [results, Tryz.results35, go_sem, *]) rfl ⟨rfl, ?_⟩
  exact ((HBc.out.gw z1).setCell (by simp <;> omega) _).setCell (by simp <;> omega) _

end Go.Proofs.YtjgnafhbeekebaaGreat.L1

namespace Go.Proofs.YtjgnafhbeekebaaGreat.L1
open Go.RowKit
open Go.Proofs.YtjgnafhbeekebaaGreat

attribute [local go_sem] gw_cell gw_frozen gw_size

def purE (a b c d : Int) : Int := if partB a b c d = true then 0 else 1
def purL (a b c d : Int) : Int := if partB a b c d = true then puLo a c else 0
def purH (a b c d : Int) : Int := if partB a b c d = true then puHi b d else 0
theorem partB_t {a b c d : Int} (h : partB a b c d = true) : 0 ≤ a ∧ a ≤ b ∧ b ≤ 1099511627776 ∧ 0 ≤ c ∧ c ≤ d ∧ d ≤ 10000 := by
  simp only [partB, spanB, Bool.and_eq_true, decide_eq_true_eq] at h
  omega
set_option maxRecDepth 100000 in
set_option maxHeartbeats 1000000 in
theorem Pure_any (a b c d : Int) (w : World) :
    Calls Tryz.prog 27 #[.agg #[.int .i64 a, .int .i64 b], .agg #[.int .i64 c, .int .i64 d]] w fun e w' => e = .returned (.tuple #[.agg #[.int .i64 (purL a b c d), .int .i64 (purH a b c d)], .int .i64 (purE a b c d)]) ∧ Below w.heap.size w w' := by
  obtain ⟨W1, hW1⟩ : ∃ W1, ((w.alloc (.cells #[.int .i64 a, .int .i64 b] 27)).alloc (.cells #[.int .i64 c, .int .i64 d] 27)).alloc (.cells #[.int .i64 0, .int .i64 0] 27) = W1 := ⟨_, rfl⟩
  have hBc : Below w.heap.size w W1 := by rw [← hW1]; exact ((below_alloc _ _).alloc (by simp) _).alloc (by simp <;> omega) _
  have zc0 : W1.heap[w.heap.size]? = some (.cells #[.int .i64 a, .int .i64 b] 27 (0, 0)) := by rw [← hW1]; exact alloc_keep (alloc_keep (alloc_at rfl))
  have zc1 : W1.heap[w.heap.size + 1]? = some (.cells #[.int .i64 c, .int .i64 d] 27 (0, 0)) := by rw [← hW1]; exact alloc_keep (alloc_at (by simp))
  have zc2 : W1.heap[w.heap.size + 1 + 1]? = some (.cells #[.int .i64 0, .int .i64 0] 27 (0, 0)) := by rw [← hW1]; exact alloc_at (by simp <;> omega)
  have c00 : W1.cell? ⟨w.heap.size, 0, none⟩ = some (.int .i64 a) := cell_of_block zc0 0 (by simp)
  have c01 : W1.cell? ⟨w.heap.size, 1, none⟩ = some (.int .i64 b) := cell_of_block zc0 1 (by simp)
  have c10 : W1.cell? ⟨w.heap.size + 1, 0, none⟩ = some (.int .i64 c) := cell_of_block zc1 0 (by simp)
  have c11 : W1.cell? ⟨w.heap.size + 1, 1, none⟩ = some (.int .i64 d) := cell_of_block zc1 1 (by simp)
  have c20 : W1.cell? ⟨w.heap.size + 1 + 1, 0, none⟩ = some (.int .i64 0) := cell_of_block zc2 0 (by simp)
  have c21 : W1.cell? ⟨w.heap.size + 1 + 1, 1, none⟩ = some (.int .i64 0) := cell_of_block zc2 1 (by simp)
  have lc0 := (Array.getElem?_eq_some_iff.1 zc0).1
  have lc1 := (Array.getElem?_eq_some_iff.1 zc1).1
  have lc2 := (Array.getElem?_eq_some_iff.1 zc2).1
  have fc20 := frozen_of_block zc2 0
  have fc21 := frozen_of_block zc2 1
  clear zc0 zc1 zc2
  have HBc := Lib.hid hBc; clear hBc
  have HWc := Lib.hid hW1; clear hW1
  have IP := Lib.hid (fun w => isPart_any a b c d w)
  cases h : partB a b c d with
  | false =>
    have e1 : purL a b c d = 0 := if_neg (by rw [h]; decide)
    have e2 : purH a b c d = 0 := if_neg (by rw [h]; decide)
    have e3 : purE a b c d = 1 := if_neg (by rw [h]; decide)
    rw [e1, e2, e3]
    rw [h] at IP
    clear h e1 e2 e3
    go_enter Tryz.func27, Tryz.ntmps27
    go_upto_region 1 with (fail)
    rw [HWc.out]
    go_wp2_with fail
    refine (Calls.grown (IP.out _)).mono ?_
    rintro e w1 ⟨rfl, z1, rfl⟩
    go_wp2_with fail
    refine bodyPost_ret (v := .tuple #[.agg #[.int .i64 0, .int .i64 0], .int .i64 1]) (by simp [results, Tryz.results27, go_sem, *]) rfl ⟨rfl, ?_⟩
    exact ((HBc.out.gw z1).setCell (by simp <;> omega) _).setCell (by simp <;> omega) _
  | true =>
    have e1 : purL a b c d = puLo a c := if_pos h
    have e2 : purH a b c d = puHi b d := if_pos h
    have e3 : purE a b c d = 0 := if_pos h
    rw [e1, e2, e3]
    rw [h] at IP
    obtain ⟨q1, q2, q3, q4, q5, q6⟩ := partB_t h
    have PU := Lib.hid (fun w => pure_any a b c d w q1 (by omega) (by omega) q3 q4 (by omega) (by omega) q6)
    clear h e1 e2 e3 q1 q2 q3 q4 q5 q6
    generalize puLo a c = l at *
    generalize puHi b d = u at *
    go_enter Tryz.func27, Tryz.ntmps27
    go_upto_region 1 with (fail)
    rw [HWc.out]
    go_wp2_with fail
    refine (Calls.grown (IP.out _)).mono ?_
    rintro e w1 ⟨rfl, z1, rfl⟩
    go_wp2_with fail
    refine (Calls.gw_of (PU.out _)).mono ?_
    rintro e w1 ⟨rfl, z2, rfl⟩
    go_wp2_with fail
    refine bodyPost_ret (v := .tuple #[.agg #[.int .i64 l, .int .i64 u], .int .i64 0]) (by simp [results, Tryz.results27, go_sem, *]) rfl ⟨rfl, ?_⟩
    exact ((HBc.out.gw z2).setCell (by simp <;> omega) _).setCell (by simp <;> omega) _
end Go.Proofs.YtjgnafhbeekebaaGreat.L1
