/- Contracts of isStep, of steps, of the six steps. No conditions beyond each theorem's own. -/
import Derived.Test.YthmnlakgcoojhaaHa
import Derived.Carry
import Derived.BigQuiet
set_option linter.unusedVariables false
set_option linter.unusedSimpArgs false
set_option linter.unusedSectionVars false
set_option linter.constructorNameAsVariable false
namespace Go.Proofs.Ythmnlakgcoojhaa.L2
open Go.RowKit

attribute [local go_sem] gw_cell gw_frozen gw_size

/-- the greatest number of a step -/
def mostK (k : Int) : Int := if k = 1 ∨ k = 2 then 10000 else if k = 3 then 1048576 else 1099511627776
def stepB (k a b : Int) : Bool := inB k 0 5 && spanB a b 0 (mostK k)
theorem stepB_t {k a b : Int} (h : stepB k a b = true) : 0 ≤ k ∧ k ≤ 5 ∧ 0 ≤ a ∧ a ≤ b ∧ b ≤ mostK k := by
  unfold stepB at h
  simp only [Bool.and_eq_true] at h
  have h1 := inB_t.1 h.1
  have h2 := spanB_t.1 h.2
  omega
set_option maxHeartbeats 2000000 in
theorem isStep_any (k a b : Int) (w : World) :
    Calls Try.prog 44 #[.agg #[.int .i64 k, .int .i64 a, .int .i64 b]] w fun e w' => e = .returned (.bool (stepB k a b)) ∧ Below w.heap.size w w' := by
  unfold stepB
  obtain ⟨W1, hW1⟩ : ∃ W1, w.alloc (.cells #[.int .i64 k, .int .i64 a, .int .i64 b] 54) = W1 := ⟨_, rfl⟩
  have hBc : Below w.heap.size w W1 := by rw [← hW1]; exact below_alloc _ _
  have zc0 : W1.heap[w.heap.size]? = some (.cells #[.int .i64 k, .int .i64 a, .int .i64 b] 54 (0, 0)) := by rw [← hW1]; exact alloc_at rfl
  have c00 : W1.cell? ⟨w.heap.size, 0, none⟩ = some (.int .i64 k) := cell_of_block zc0 0 (by simp)
  have c01 : W1.cell? ⟨w.heap.size, 1, none⟩ = some (.int .i64 a) := cell_of_block zc0 1 (by simp)
  have c02 : W1.cell? ⟨w.heap.size, 2, none⟩ = some (.int .i64 b) := cell_of_block zc0 2 (by simp)
  have lc0 := (Array.getElem?_eq_some_iff.1 zc0).1
  clear zc0
  have HBc := Lib.hid hBc; clear hBc
  have HWc := Lib.hid hW1; clear hW1
  by_cases k1 : k = 1
  · have hm : mostK k = 10000 := by unfold mostK; rw [if_pos (.inl k1)]
    rw [hm]; clear hm
    cases e1 : inB k 0 5 <;> cases e2 : spanB a b 0 10000
    all_goals
      simp only [Bool.false_and, Bool.true_and]
      have S0 := Lib.hid (fun W => within_b k 0 5 W e1)
      have S1 := Lib.hid (fun W => isSpan_b a b 10000 W e2)
      clear e1 e2
      have d1 : (k == 1) = true := by simp; omega
      clear k1
      go_enter Try.func44, Try.ntmps44
      go_upto_region 1 with (fail)
      rw [HWc.out]
      go_wp2_with fail
      refine (S0.out _).mono ?_
      rintro e w1 ⟨rfl, rfl⟩
      go_wp2_with fail
      try (refine (Calls.grown (S1.out _)).mono ?_; rintro e w1 ⟨rfl, z, rfl⟩; go_wp2_with fail)
      go_ret
      exact ⟨rfl, by first | exact HBc.out.gw _ | exact HBc.out⟩
  by_cases k2 : k = 2
  · have hm : mostK k = 10000 := by unfold mostK; rw [if_pos (.inr k2)]
    rw [hm]; clear hm
    cases e1 : inB k 0 5 <;> cases e2 : spanB a b 0 10000
    all_goals
      simp only [Bool.false_and, Bool.true_and]
      have S0 := Lib.hid (fun W => within_b k 0 5 W e1)
      have S1 := Lib.hid (fun W => isSpan_b a b 10000 W e2)
      clear e1 e2
      have d1 : (k == 1) = false := by simp; omega
      have d2 : (k == 2) = true := by simp; omega
      clear k1 k2
      go_enter Try.func44, Try.ntmps44
      go_upto_region 1 with (fail)
      rw [HWc.out]
      go_wp2_with fail
      refine (S0.out _).mono ?_
      rintro e w1 ⟨rfl, rfl⟩
      go_wp2_with fail
      try (refine (Calls.grown (S1.out _)).mono ?_; rintro e w1 ⟨rfl, z, rfl⟩; go_wp2_with fail)
      go_ret
      exact ⟨rfl, by first | exact HBc.out.gw _ | exact HBc.out⟩
  by_cases k3 : k = 3
  · have hm : mostK k = 1048576 := by unfold mostK; rw [if_neg (by omega), if_pos k3]
    rw [hm]; clear hm
    cases e1 : inB k 0 5 <;> cases e2 : spanB a b 0 1048576
    all_goals
      simp only [Bool.false_and, Bool.true_and]
      have S0 := Lib.hid (fun W => within_b k 0 5 W e1)
      have S1 := Lib.hid (fun W => isSpan_b a b 1048576 W e2)
      clear e1 e2
      have d1 : (k == 1) = false := by simp; omega
      have d2 : (k == 2) = false := by simp; omega
      have d3 : (k == 3) = true := by simp; omega
      clear k1 k2 k3
      go_enter Try.func44, Try.ntmps44
      go_upto_region 1 with (fail)
      rw [HWc.out]
      go_wp2_with fail
      refine (S0.out _).mono ?_
      rintro e w1 ⟨rfl, rfl⟩
      go_wp2_with fail
      try (refine (Calls.grown (S1.out _)).mono ?_; rintro e w1 ⟨rfl, z, rfl⟩; go_wp2_with fail)
      go_ret
      exact ⟨rfl, by first | exact HBc.out.gw _ | exact HBc.out⟩
  · have hm : mostK k = 1099511627776 := by unfold mostK; rw [if_neg (by omega), if_neg k3]
    rw [hm]; clear hm
    cases e1 : inB k 0 5 <;> cases e2 : spanB a b 0 1099511627776
    all_goals
      simp only [Bool.false_and, Bool.true_and]
      have S0 := Lib.hid (fun W => within_b k 0 5 W e1)
      have S1 := Lib.hid (fun W => isSpan_b a b 1099511627776 W e2)
      clear e1 e2
      have d1 : (k == 1) = false := by simp; omega
      have d2 : (k == 2) = false := by simp; omega
      have d3 : (k == 3) = false := by simp; omega
      clear k1 k2 k3
      go_enter Try.func44, Try.ntmps44
      go_upto_region 1 with (fail)
      rw [HWc.out]
      go_wp2_with fail
      refine (S0.out _).mono ?_
      rintro e w1 ⟨rfl, rfl⟩
      go_wp2_with fail
      try (refine (Calls.grown (S1.out _)).mono ?_; rintro e w1 ⟨rfl, z, rfl⟩; go_wp2_with fail)
      go_ret
      exact ⟨rfl, by first | exact HBc.out.gw _ | exact HBc.out⟩

/-- what steps returns -/
def stepsV : Value := .agg #[.func (.func 56) #[] #[], .func (.func 59) #[] #[], .func (.func 61) #[] #[], .func (.func 62) #[] #[], .func (.func 63) #[] #[], .func (.func 64) #[] #[]]
set_option maxHeartbeats 1000000 in
theorem steps_any (w : World) :
    Calls Try.prog 45 #[] w fun e w' => e = .returned stepsV ∧ Below w.heap.size w w' := by
  unfold stepsV
  go_enter Try.func45, Try.ntmps45
  go_wp2
  refine bodyPost_ret (v := .agg #[.func (.func 56) #[] #[], .func (.func 59) #[] #[], .func (.func 61) #[] #[], .func (.func 62) #[] #[], .func (.func 63) #[] #[], .func (.func 64) #[] #[]]) (by simp [results, Try.results45, go_sem]) rfl ⟨rfl, ?_⟩
  exact below_alloc w _
theorem index0 (w : World) : (Instr.index 112 stepsV (.int .i64 0)).run Try.prog w = .ok (.func (.func 56) #[] #[]) w := by kernel_rfl
theorem index1 (w : World) : (Instr.index 112 stepsV (.int .i64 1)).run Try.prog w = .ok (.func (.func 59) #[] #[]) w := by kernel_rfl
theorem index2 (w : World) : (Instr.index 112 stepsV (.int .i64 2)).run Try.prog w = .ok (.func (.func 61) #[] #[]) w := by kernel_rfl
theorem index3 (w : World) : (Instr.index 112 stepsV (.int .i64 3)).run Try.prog w = .ok (.func (.func 62) #[] #[]) w := by kernel_rfl
theorem index4 (w : World) : (Instr.index 112 stepsV (.int .i64 4)).run Try.prog w = .ok (.func (.func 63) #[] #[]) w := by kernel_rfl
theorem index5 (w : World) : (Instr.index 112 stepsV (.int .i64 5)).run Try.prog w = .ok (.func (.func 64) #[] #[]) w := by kernel_rfl
end Go.Proofs.Ythmnlakgcoojhaa.L2
