/- Contract of Bound (reference). No conditions beyond each theorem's own. -/
import Derived.Test.YtecbacbecopbeaaBp
set_option linter.unusedVariables false
set_option linter.unusedSimpArgs false
set_option linter.unusedSectionVars false
set_option linter.constructorNameAsVariable false
namespace Go.Proofs.Ytecbacbecopbeaa
open Go.RowKit

attribute [local go_sem] gw_cell gw_frozen gw_size

set_option maxHeartbeats 400000 in
theorem rbnd_zero (a v : Int) (w : World) (ae : (a == 0) = true) : Calls Try.prog 79 #[.int .i64 a, .int .i64 v] w fun e w' => e = .returned (.int .i64 0) ∧ w = w' := by
  go_enter Try.func79, Try.ntmps79
  go_wp2_with fail
  go_ret
  exact ⟨rfl, rfl⟩
set_option maxHeartbeats 400000 in
theorem rbnd_any (a v : Int) (w : World) (ae : (a == 0) = false) (h0 : 0 ≤ a * (1000 - v)) (h1 : a * (1000 - v) ≤ 4000000000000000000) (h2 : 1 ≤ v ∧ v ≤ 1000) : Calls Try.prog 79 #[.int .i64 a, .int .i64 v] w fun e w' => e = .returned (.int .i64 (upI (a * (1000 - v)) v)) ∧ w = w' := by
  have CE := Lib.hid (fun w => rceil_any (a * (1000 - v)) v w (by omega) (by omega) (by omega))
  go_enter Try.func79, Try.ntmps79
  go_wp2_with fail
  refine (CE.out _).mono ?_
  rintro e w1 ⟨rfl, rfl⟩
  go_wp2_with fail
  go_ret
  exact ⟨rfl, rfl⟩

set_option maxRecDepth 100000 in
set_option maxHeartbeats 1000000 in
theorem rBound_any (a v : Int) (w : World) : Calls Try.prog 42 #[.int .i64 a, .int .i64 v] w fun e w' => e = .returned (.tuple #[.int .i64 (boundV a v), .int .i64 (boundE a v)]) ∧ w = w' := by
  cases h1 : inB a 0 1073741824 with
  | false =>
    have e1 : boundE a v = 2 := by unfold boundE boundB; rw [h1]; rfl
    have e2 : boundV a v = 0 := by unfold boundV boundB; rw [h1]; rfl
    rw [e1, e2]
    have T1 := Lib.hid h1; clear h1 e1 e2
    go_enter Try.func42, Try.ntmps42
    go_wp2_with fail
    refine (rin_b a 0 1073741824 _ T1.out).mono ?_
    rintro e w1 ⟨rfl, rfl⟩
    go_wp2_with fail
    go_ret2
    exact ⟨rfl, rfl⟩
  | true =>
    cases h2 : inB v 0 1000 with
    | false =>
      have e1 : boundE a v = 2 := by unfold boundE boundB; rw [h1, h2]; rfl
      have e2 : boundV a v = 0 := by unfold boundV boundB; rw [h1, h2]; rfl
      rw [e1, e2]
      have T1 := Lib.hid h1; have T2 := Lib.hid h2; clear h1 h2 e1 e2
      go_enter Try.func42, Try.ntmps42
      go_wp2_with fail
      refine (rin_b a 0 1073741824 _ T1.out).mono ?_
      rintro e w1 ⟨rfl, rfl⟩
      go_wp2_with fail
      refine (rin_b v 0 1000 _ T2.out).mono ?_
      rintro e w1 ⟨rfl, rfl⟩
      go_wp2_with fail
      go_ret2
      exact ⟨rfl, rfl⟩
    | true =>
      have hb : boundB a v = true := by unfold boundB; rw [h1, h2]; rfl
      obtain ⟨m0, m1⟩ := bound_mul hb
      obtain ⟨⟨a0, a1⟩, v0, v1⟩ := boundB_t hb
      have T1 := Lib.hid h1; have T2 := Lib.hid h2; clear h1 h2
      by_cases ha : a = 0
      · have e1 : boundE a v = 0 := by unfold boundE; rw [if_pos hb, if_pos ha]
        have e2 : boundV a v = 0 := by unfold boundV; rw [if_neg (fun h => h.2.1 ha)]
        rw [e1, e2]
        clear e1 e2
        have ae : (a == 0) = true := by simpa using ha
        have RB := Lib.hid (fun w => rbnd_zero a v w ae)
        have le : ¬ 0 < a := by omega
        clear ha hb m0 m1
        by_cases hv : v = 0
        · have ve : (v == 0) = true := by simpa using hv
          clear hv
          go_enter Try.func42, Try.ntmps42
          go_wp2_with fail
          refine (rin_b a 0 1073741824 _ T1.out).mono ?_
          rintro e w1 ⟨rfl, rfl⟩
          go_wp2_with fail
          refine (rin_b v 0 1000 _ T2.out).mono ?_
          rintro e w1 ⟨rfl, rfl⟩
          go_wp2_with fail
          refine (RB.out _).mono ?_
          rintro e w1 ⟨rfl, rfl⟩
          go_wp2_with fail
          go_ret2
          exact ⟨rfl, rfl⟩
        · have ve : (v == 0) = false := by simpa using hv
          clear hv
          go_enter Try.func42, Try.ntmps42
          go_wp2_with fail
          refine (rin_b a 0 1073741824 _ T1.out).mono ?_
          rintro e w1 ⟨rfl, rfl⟩
          go_wp2_with fail
          refine (rin_b v 0 1000 _ T2.out).mono ?_
          rintro e w1 ⟨rfl, rfl⟩
          go_wp2_with fail
          refine (RB.out _).mono ?_
          rintro e w1 ⟨rfl, rfl⟩
          go_wp2_with fail
          go_ret2
          exact ⟨rfl, rfl⟩
      · have ae : (a == 0) = false := by simpa using ha
        by_cases hv : v = 0
        · have e1 : boundE a v = 12 := by unfold boundE; rw [if_pos hb, if_neg ha, if_pos hv]
          have e2 : boundV a v = 0 := by unfold boundV; rw [if_neg (fun h => h.2.2 hv)]
          rw [e1, e2]
          clear e1 e2
          have ve : (v == 0) = true := by simpa using hv
          clear hv hb m0 m1
          go_enter Try.func42, Try.ntmps42
          go_wp2_with fail
          refine (rin_b a 0 1073741824 _ T1.out).mono ?_
          rintro e w1 ⟨rfl, rfl⟩
          go_wp2_with fail
          refine (rin_b v 0 1000 _ T2.out).mono ?_
          rintro e w1 ⟨rfl, rfl⟩
          go_wp2_with fail
          go_ret2
          exact ⟨rfl, rfl⟩
        · have e1 : boundE a v = 0 := by unfold boundE; rw [if_pos hb, if_neg ha, if_neg hv]
          have e2 : boundV a v = upI (a * (1000 - v)) v := by unfold boundV; rw [if_pos ⟨hb, ha, hv⟩]
          rw [e1, e2]
          clear e1 e2
          have ve : (v == 0) = false := by simpa using hv
          have CE := Lib.hid (fun w => rbnd_any a v w ae (by omega) (by omega) (by omega))
          go_enter Try.func42, Try.ntmps42
          go_wp2_with fail
          refine (rin_b a 0 1073741824 _ T1.out).mono ?_
          rintro e w1 ⟨rfl, rfl⟩
          go_wp2_with fail
          refine (rin_b v 0 1000 _ T2.out).mono ?_
          rintro e w1 ⟨rfl, rfl⟩
          go_wp2_with fail
          refine (CE.out _).mono ?_
          rintro e w1 ⟨rfl, rfl⟩
          go_wp2_with fail
          go_ret2
          exact ⟨rfl, rfl⟩

end Go.Proofs.Ytecbacbecopbeaa
