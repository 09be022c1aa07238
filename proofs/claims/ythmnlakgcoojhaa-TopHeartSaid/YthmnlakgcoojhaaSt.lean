/- Contract of Water. No conditions beyond each theorem's own. -/
import Derived.Test.YthmnlakgcoojhaaSs
set_option linter.unusedVariables false
set_option linter.unusedSimpArgs false
set_option linter.unusedSectionVars false
set_option linter.constructorNameAsVariable false
namespace Go.Proofs.Ythmnlakgcoojhaa.L1
open Go.RowKit
open Go.Proofs.Ythmnlakgcoojhaa

attribute [local go_sem] gw_cell gw_frozen gw_size

def watE (a b c d n : Int) : Int := if partB a b c d = true then (if inB n 1 10000 = true then (if c < n then 11 else 0) else 2) else 1
def watN (a b c d n : Int) : Int := if watE a b c d n = 0 then min (1099511627776 - b) (a * (c - n) / n) else 0
set_option maxRecDepth 100000 in
set_option maxHeartbeats 2000000 in
theorem Water_any (a b c d n : Int) (w : World) :
    Calls Try.prog 8 #[.agg #[.int .i64 a, .int .i64 b, .int .i64 c, .int .i64 d], .int .i64 n] w fun e w' => e = .returned (.tuple #[.int .i64 (watN a b c d n), .int .i64 (watE a b c d n)]) ∧ Below w.heap.size w w' := by
  obtain ⟨W1, hW1⟩ : ∃ W1, w.alloc (.cells #[.int .i64 a, .int .i64 b, .int .i64 c, .int .i64 d] 41) = W1 := ⟨_, rfl⟩
  have hBc : Below w.heap.size w W1 := by rw [← hW1]; exact below_alloc _ _
  have zc0 : W1.heap[w.heap.size]? = some (.cells #[.int .i64 a, .int .i64 b, .int .i64 c, .int .i64 d] 41 (0, 0)) := by rw [← hW1]; exact alloc_at rfl
  have c00 : W1.cell? ⟨w.heap.size, 0, none⟩ = some (.int .i64 a) := cell_of_block zc0 0 (by simp)
  have c01 : W1.cell? ⟨w.heap.size, 1, none⟩ = some (.int .i64 b) := cell_of_block zc0 1 (by simp)
  have c02 : W1.cell? ⟨w.heap.size, 2, none⟩ = some (.int .i64 c) := cell_of_block zc0 2 (by simp)
  have c03 : W1.cell? ⟨w.heap.size, 3, none⟩ = some (.int .i64 d) := cell_of_block zc0 3 (by simp)
  have lc0 := (Array.getElem?_eq_some_iff.1 zc0).1
  clear zc0
  have HBc := Lib.hid hBc; clear hBc
  have HWc := Lib.hid hW1; clear hW1
  have IP := Lib.hid (fun w => isPart_any a b c d w)
  have IN := Lib.hid (fun w => within_any n 1 10000 w)
  cases h : partB a b c d with
  | false =>
    have e3 : watE a b c d n = 1 := by unfold watE; simp [h]
    have e1 : watN a b c d n = 0 := if_neg (by rw [e3]; decide)
    rw [e1, e3]
    rw [h] at IP
    clear h e1 e3 IN
    go_enter Try.func8, Try.ntmps8
    go_upto_region 1 with (fail)
    rw [HWc.out]
    go_wp2_with fail
    refine (Calls.grown (IP.out _)).mono ?_
    rintro e w1 ⟨rfl, z1, rfl⟩
    go_wp2_with fail
    go_ret2
    exact ⟨rfl, HBc.out.gw z1⟩
  | true =>
    cases h2 : inB n 1 10000 with
    | false =>
      have e3 : watE a b c d n = 2 := by unfold watE; simp [h, h2]
      have e1 : watN a b c d n = 0 := if_neg (by rw [e3]; decide)
      rw [e1, e3]
      simp only [h] at IP
      simp only [h2] at IN
      clear h h2 e1 e3
      go_enter Try.func8, Try.ntmps8
      go_upto_region 1 with (fail)
      rw [HWc.out]
      go_wp2_with fail
      refine (Calls.grown (IP.out _)).mono ?_
      rintro e w1 ⟨rfl, z1, rfl⟩
      go_wp2_with fail
      refine (IN.out _).mono ?_
      rintro e w1 ⟨rfl, rfl⟩
      go_wp2_with fail
      go_ret2
      exact ⟨rfl, HBc.out.gw z1⟩
    | true =>
      have hn : 1 ≤ n ∧ n ≤ 10000 := by simpa [inB] using h2
      obtain ⟨q1, q2, q3, q4, q5, q6⟩ := partB_t h
      by_cases h3 : c < n
      · skip
        have e3 : watE a b c d n = 11 := by unfold watE; simp [h, h2, h3]
        have e1 : watN a b c d n = 0 := if_neg (by rw [e3]; decide)
        rw [e1, e3]
        simp only [h] at IP
        simp only [h2] at IN
        clear h h2 e1 e3
        go_enter Try.func8, Try.ntmps8
        go_upto_region 1 with (fail)
        rw [HWc.out]
        go_wp2_with fail
        refine (Calls.grown (IP.out _)).mono ?_
        rintro e w1 ⟨rfl, z1, rfl⟩
        go_wp2_with fail
        refine (IN.out _).mono ?_
        rintro e w1 ⟨rfl, rfl⟩
        go_wp2_with fail
        go_ret2
        exact ⟨rfl, HBc.out.gw z1⟩
      · skip
        have e3 : watE a b c d n = 0 := by unfold watE; simp [h, h2, h3]
        have e1 : watN a b c d n = min (1099511627776 - b) (a * (c - n) / n) := if_pos e3
        rw [e1, e3]
        have x0 := Int.mul_nonneg q1 (show 0 ≤ c - n by omega)
        have x1 := Int.mul_le_mul (show a ≤ 1099511627776 by omega) (show c - n ≤ 10000 by omega) (by omega) (by omega)
        have v0 := Int.ediv_nonneg x0 (show 0 ≤ n by omega)
        have v1 : a * (c - n) / n ≤ a * (c - n) := Int.ediv_le_self _ x0
        obtain ⟨V, hV⟩ : ∃ V, a * (c - n) / n = V := ⟨_, rfl⟩
        obtain ⟨X, hX⟩ : ∃ X, a * (c - n) = X := ⟨_, rfl⟩
        rw [hV] at v0 v1 ⊢
        rw [hX] at x0 x1 v1 hV
        simp only [h] at IP
        simp only [h2] at IN
        have g1 : ¬ n = 0 := by omega
        clear h h2 e1 e3
        go_enter Try.func8, Try.ntmps8
        go_upto_region 1 with (fail)
        rw [HWc.out]
        go_wp2_with fail
        refine (Calls.grown (IP.out _)).mono ?_
        rintro e w1 ⟨rfl, z1, rfl⟩
        go_wp2_with fail
        refine (IN.out _).mono ?_
        rintro e w1 ⟨rfl, rfl⟩
        go_upto_region 7 with (fail)
        go_region
        go_wp2_with fail
        go_ret2
        first | exact ⟨rfl, HBc.out.gw z1⟩ | exact ⟨rfl, thru (below_drew _) (HBc.out.gw z1)⟩
end Go.Proofs.Ythmnlakgcoojhaa.L1
