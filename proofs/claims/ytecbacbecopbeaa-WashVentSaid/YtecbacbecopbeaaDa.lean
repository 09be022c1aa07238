/- WashVent walked: it returns true. No conditions beyond each theorem's own. -/
import Derived.Test.YtecbacbecopbeaaBq
set_option linter.unusedVariables false
set_option linter.unusedSimpArgs false
set_option linter.unusedSectionVars false
set_option linter.constructorNameAsVariable false
namespace Go.Proofs.Ytecbacbecopbeaa
open Go.RowKit

attribute [local go_sem] gw_cell gw_frozen gw_size

theorem boundE_cases {a : Int} {v : Int} (hb : boundB a v = true) : (boundE a v = 0 ∧ (v = 0 → a = 0)) ∨ boundE a v = 12 := by
  unfold boundE
  rw [if_pos hb]
  by_cases ha : a = 0
  · rw [if_pos ha]; exact .inl ⟨rfl, fun _ => ha⟩
  · rw [if_neg ha]
    by_cases hv : v = 0
    · rw [if_pos hv]; exact .inr rfl
    · rw [if_neg hv]; exact .inl ⟨rfl, fun h => absurd h hv⟩
theorem vent_plain (a lim : Int) : (ventE a lim = 2 ∧ ventV a lim = 0) ∨ (ventE a lim = 12 ∧ ventV a lim = 0 ∧ lim < a) ∨
    (ventE a lim = 0 ∧ 0 ≤ a ∧ a ≤ 1073741824 ∧ ∃ N : Nat, ventV a lim = N ∧ N ≤ 1000 ∧ boundE a N = 0 ∧ boundV a N + a ≤ lim ∧ (N = 0 → a = 0) ∧ (0 < N → boundE a ((N : Int) - 1) = 12 ∨ (boundE a ((N : Int) - 1) = 0 ∧ lim < boundV a ((N : Int) - 1) + a))) := by
  by_cases h : inB a 0 1073741824 = true ∧ inB lim 0 1073741824 = true
  · have a0 := inB_t.1 h.1
    by_cases hn : 1000 < ventN a lim
    · have e : ventE a lim = 12 := by unfold ventE; rw [if_pos h, if_pos hn]
      refine .inr (.inl ⟨e, by unfold ventV; rw [e]; rfl, ?_⟩)
      have hv := okN_lt (fun i => !ventB a lim i) 1001 1000 hn
      have hb : boundB a ((1000 : Nat) : Int) = true := by unfold boundB; rw [h.1]; rfl
      have e2 : boundE a ((1000 : Nat) : Int) = 0 := by
        unfold boundE; rw [if_pos hb]
        by_cases ha : a = 0
        · rw [if_pos ha]
        · rw [if_neg ha, if_neg (by decide)]
      have e3 : boundV a ((1000 : Nat) : Int) = 0 := by
        unfold boundV
        split
        · simp [upI]
        · rfl
      simp only [ventB, e2, e3, decide_true, Bool.true_and, Bool.not_eq_true', decide_eq_false_iff_not] at hv
      omega
    · have e : ventE a lim = 0 := by unfold ventE; rw [if_pos h, if_neg hn]
      refine .inr (.inr ⟨e, a0.1, a0.2, ventN a lim, by unfold ventV; rw [if_pos e], by omega, ?_⟩)
      have hv := okN_bad (fun i => !ventB a lim i) 1001 (by show ventN a lim < 1001; omega)
      have hv2 : ventB a lim (ventN a lim) = true := by
        have : (!ventB a lim (ventN a lim)) = false := hv
        simpa using this
      simp only [ventB, Bool.and_eq_true, decide_eq_true_eq] at hv2
      refine ⟨hv2.1, hv2.2, fun h0 => ?_, fun h0 => ?_⟩
      · have hb : boundB a ((ventN a lim : Nat) : Int) = true := by unfold boundB; rw [h.1, inB_t.2 (by omega)]; rfl
        rcases boundE_cases hb with ⟨_, k⟩ | k
        · exact k (by omega)
        · omega
      · have hp := okN_lt (fun i => !ventB a lim i) 1001 (ventN a lim - 1) (by show ventN a lim - 1 < ventN a lim; omega)
        have hb : boundB a ((ventN a lim - 1 : Nat) : Int) = true := by unfold boundB; rw [h.1, inB_t.2 (by omega)]; rfl
        rw [show ((ventN a lim : Nat) : Int) - 1 = ((ventN a lim - 1 : Nat) : Int) by omega]
        rcases boundE_cases hb with ⟨k, _⟩ | k
        · refine .inr ⟨k, ?_⟩
          simp only [ventB, k, decide_true, Bool.true_and, Bool.not_eq_true', decide_eq_false_iff_not] at hp
          omega
        · exact .inl k
  · have e : ventE a lim = 2 := by unfold ventE; rw [if_neg h]
    exact .inl ⟨e, by unfold ventV; rw [e]; rfl⟩

set_option maxRecDepth 100000 in
set_option maxHeartbeats 4000000 in
theorem vent_any (a lim : Int) (w : World) : Calls Try.prog 7 #[.int .i64 a, .int .i64 lim] w (True1 w) := by
  have V := Vent_any a lim w
  rcases vent_plain a lim with ⟨e1, e2⟩ | ⟨e1, e2, hl⟩ | ⟨e1, a0, a1, N, e2, n0, b0, b1, z0, p0⟩
  · rw [e1, e2] at V
    have HV := Lib.hid V; clear V e1 e2
    go_enter Try.func7, Try.ntmps7
    go_wp2_with fail
    refine (Calls.grown HV.out).mono ?_
    rintro e w1 ⟨rfl, z1, rfl⟩
    go_wp2_with fail
    refine (Calls.gw_of (alive_any _)).mono ?_
    rintro e w1 ⟨rfl, z2, rfl⟩
    go_wp2_with fail
    go_ret
    exact ⟨rfl, below_gw w z2⟩
  · rw [e1, e2] at V
    have HV := Lib.hid V; clear V e1 e2
    have lt : decide (lim < a) = true := by simpa using hl
    go_enter Try.func7, Try.ntmps7
    go_wp2_with fail
    refine (Calls.grown HV.out).mono ?_
    rintro e w1 ⟨rfl, z1, rfl⟩
    go_wp2_with fail
    refine (Calls.gw_of (alive_any _)).mono ?_
    rintro e w1 ⟨rfl, z2, rfl⟩
    go_wp2_with fail
    go_ret
    exact ⟨rfl, below_gw w z2⟩
  · rw [e1, e2] at V
    have HV := Lib.hid V; clear V e1 e2
    have B := fun w => Bound_any a (N : Int) w
    rw [b0] at B
    have r := boundV_range a (N : Int)
    obtain ⟨bv, hbv⟩ : ∃ bv, boundV a (N : Int) = bv := ⟨_, rfl⟩
    rw [hbv] at B b1 r
    have HB := Lib.hid B; clear B b0 hbv
    have ng : decide (lim < bv + a) = false := by simp; omega
    by_cases hN : N = 0
    · have ae := z0 hN
      subst hN
      have aq : (a == 0) = true := by simpa using ae
      clear ae p0 z0
      go_enter Try.func7, Try.ntmps7
      go_wp2_with fail
      refine (Calls.grown HV.out).mono ?_
      rintro e w1 ⟨rfl, z1, rfl⟩
      go_wp2_with fail
      refine (HB.out _).mono ?_
      rintro e w1 ⟨rfl, rfl⟩
      go_wp2_with fail
      refine (Calls.gw_of (alive_any _)).mono ?_
      rintro e w1 ⟨rfl, z2, rfl⟩
      go_wp2_with fail
      go_ret
      exact ⟨rfl, below_gw w z2⟩
    · have nq : ((N : Int) == 0) = false := by simpa using hN
      have C := fun w => Bound_any a ((N : Int) - 1) w
      have r2 := boundV_range a ((N : Int) - 1)
      have p1 := p0 (by omega)
      obtain ⟨cv, hcv⟩ : ∃ cv, boundV a ((N : Int) - 1) = cv := ⟨_, rfl⟩
      rw [hcv] at C p1 r2
      clear hcv p0 z0
      rcases p1 with g | ⟨g, gl⟩
      · rw [g] at C
        have HC := Lib.hid C; clear C g
        go_enter Try.func7, Try.ntmps7
        go_wp2_with fail
        refine (Calls.grown HV.out).mono ?_
        rintro e w1 ⟨rfl, z1, rfl⟩
        go_wp2_with fail
        refine (HB.out _).mono ?_
        rintro e w1 ⟨rfl, rfl⟩
        go_wp2_with fail
        refine (HC.out _).mono ?_
        rintro e w1 ⟨rfl, rfl⟩
        go_wp2_with fail
        refine (Calls.gw_of (alive_any _)).mono ?_
        rintro e w1 ⟨rfl, z2, rfl⟩
        go_wp2_with fail
        go_ret
        exact ⟨rfl, below_gw w z2⟩
      · rw [g] at C
        have HC := Lib.hid C; clear C g
        have gq : decide (lim < cv + a) = true := by simpa using gl
        go_enter Try.func7, Try.ntmps7
        go_wp2_with fail
        refine (Calls.grown HV.out).mono ?_
        rintro e w1 ⟨rfl, z1, rfl⟩
        go_wp2_with fail
        refine (HB.out _).mono ?_
        rintro e w1 ⟨rfl, rfl⟩
        go_wp2_with fail
        refine (HC.out _).mono ?_
        rintro e w1 ⟨rfl, rfl⟩
        go_wp2_with fail
        refine (Calls.gw_of (alive_any _)).mono ?_
        rintro e w1 ⟨rfl, z2, rfl⟩
        go_wp2_with fail
        go_ret
        exact ⟨rfl, below_gw w z2⟩
end Go.Proofs.Ytecbacbecopbeaa
