/- Contract of Vent (reference). No conditions beyond each theorem's own. -/
import Derived.Test.YtecbacbecopbeaaBs
set_option linter.unusedVariables false
set_option linter.unusedSimpArgs false
set_option linter.unusedSectionVars false
set_option linter.constructorNameAsVariable false
namespace Go.Proofs.Ytecbacbecopbeaa
open Go.RowKit

attribute [local go_sem] gw_cell gw_frozen gw_size

theorem ventB_of {a lim : Int} {v : Nat} (a0 : 0 ≤ a ∧ a ≤ 1073741824) (hv : v ≤ 1000) (h : a = 0 ∨ (v : Int) ≠ 0) : boundE a v = 0 ∧ ventB a lim v = decide (boundV a v + a ≤ lim) := by
  have hb : boundB a v = true := by unfold boundB; rw [inB_t.2 a0, inB_t.2 (by omega)]; rfl
  have e : boundE a v = 0 := by
    unfold boundE; rw [if_pos hb]
    by_cases ha : a = 0
    · rw [if_pos ha]
    · rw [if_neg ha, if_neg (h.resolve_left ha)]
  exact ⟨e, by unfold ventB; rw [e]; rfl⟩
theorem ventB_none {a lim : Int} (ha : 0 < a) : ventB a lim 0 = false := by
  have e : boundE a ((0 : Nat) : Int) ≠ 0 := by
    unfold boundE
    split
    · rw [if_neg (by omega), if_pos (show ((0 : Nat) : Int) = 0 from rfl)]; decide
    · decide
  unfold ventB
  rw [decide_eq_false e]
  rfl
/-- bound, whichever way -/
theorem rbnd_val {a : Int} {v : Nat} (w : World) (a0 : 0 ≤ a ∧ a ≤ 1073741824) (hv : v ≤ 1000) (h : a = 0 ∨ (v : Int) ≠ 0) : Calls Try.prog 79 #[.int .i64 a, .int .i64 v] w fun e w' => e = .returned (.int .i64 (boundV a v)) ∧ w = w' := by
  have hb : boundB a v = true := by unfold boundB; rw [inB_t.2 a0, inB_t.2 (by omega)]; rfl
  by_cases ha : a = 0
  · subst ha
    rw [show boundV 0 (v : Int) = 0 by unfold boundV; rw [if_neg (fun h => h.2.1 rfl)]]
    exact rbnd_zero 0 v w rfl
  · have hv' := h.resolve_left ha
    obtain ⟨m0, m1⟩ := bound_mul hb
    rw [show boundV a v = upI (a * (1000 - v)) v by unfold boundV; rw [if_pos ⟨hb, ha, hv'⟩]]
    exact rbnd_any a v w (by simpa using ha) m0 (by omega) (by omega)

set_option maxRecDepth 100000 in
set_option maxHeartbeats 1000000 in
theorem rVent_any (a lim : Int) (w : World) : Calls Try.prog 43 #[.int .i64 a, .int .i64 lim] w fun e w' => e = .returned (.tuple #[.int .i64 (ventV a lim), .int .i64 (ventE a lim)]) ∧ w = w' := by
  cases h1 : inB a 0 1073741824 with
  | false =>
    have e1 : ventE a lim = 2 := by unfold ventE; rw [h1]; rfl
    have e2 : ventV a lim = 0 := by unfold ventV; rw [e1]; rfl
    rw [e1, e2]
    have T1 := Lib.hid h1; clear h1 e1 e2
    go_enter Try.func43, Try.ntmps43
    go_wp2_with fail
    refine (rin_b a 0 1073741824 _ T1.out).mono ?_
    rintro e w1 ⟨rfl, rfl⟩
    go_wp2_with fail
    go_ret2
    exact ⟨rfl, rfl⟩
  | true =>
    cases h2 : inB lim 0 1073741824 with
    | false =>
      have e1 : ventE a lim = 2 := by unfold ventE; rw [h1, h2]; rfl
      have e2 : ventV a lim = 0 := by unfold ventV; rw [e1]; rfl
      rw [e1, e2]
      have T1 := Lib.hid h1; have T2 := Lib.hid h2; clear h1 h2 e1 e2
      go_enter Try.func43, Try.ntmps43
      go_wp2_with fail
      refine (rin_b a 0 1073741824 _ T1.out).mono ?_
      rintro e w1 ⟨rfl, rfl⟩
      go_wp2_with fail
      refine (rin_b lim 0 1073741824 _ T2.out).mono ?_
      rintro e w1 ⟨rfl, rfl⟩
      go_wp2_with fail
      go_ret2
      exact ⟨rfl, rfl⟩
    | true =>
      have a0 := inB_t.1 h1
      have l0 := inB_t.1 h2
      have T1 := Lib.hid h1; have T2 := Lib.hid h2
      have EN := Lib.hid (show ∀ i : Nat, i ≤ 1000 → (∀ t, t < i → ventB a lim t = false) → ventB a lim i = true → ventE a lim = 0 ∧ ventV a lim = i from fun i hi hp hq => by
        have hn : i = ventN a lim := okN_unique (p := fun i => !ventB a lim i) (n := 1001) (by omega) (fun t ht => by show (!ventB a lim t) = true; rw [hp t ht]; rfl) (fun _ => by show (!ventB a lim i) = false; rw [hq]; rfl)
        have e : ventE a lim = 0 := by unfold ventE; rw [if_pos ⟨h1, h2⟩, if_neg (by omega)]
        exact ⟨e, by unfold ventV; rw [if_pos e, hn]⟩)
      have EX := Lib.hid (show (∀ t, t < 1001 → ventB a lim t = false) → ventE a lim = 12 ∧ ventV a lim = 0 from fun hp => by
        have hn : 1001 = ventN a lim := okN_unique (p := fun i => !ventB a lim i) (n := 1001) (by omega) (fun t ht => by show (!ventB a lim t) = true; rw [hp t ht]; rfl) (fun h => absurd h (by omega))
        have e : ventE a lim = 12 := by unfold ventE; rw [if_pos ⟨h1, h2⟩, if_pos (by omega)]
        exact ⟨e, by unfold ventV; rw [e]; rfl⟩)
      clear h1 h2
      go_enter Try.func43, Try.ntmps43
      go_wp2_with fail
      refine (rin_b a 0 1073741824 _ T1.out).mono ?_
      rintro e w1 ⟨rfl, rfl⟩
      go_wp2_with fail
      refine (rin_b lim 0 1073741824 _ T2.out).mono ?_
      rintro e w1 ⟨rfl, rfl⟩
      go_wp2_with fail
      go_loop [6] (fun p => ∃ i : Nat, i ≤ 1001 ∧ p = .int .i64 i ∧ Hid (∀ t, t < i → ventB a lim t = false)) (fun p => 1001 - (intOf p).toNat)
      case atStart => exact ⟨0, by omega, rfl, Lib.hid (fun t ht => by omega)⟩
      case round =>
        obtain ⟨i, hi, rfl, HP⟩ := hrel
        by_cases hlt : i ≤ 1000
        · by_cases hz : 0 < a ∧ i = 0
          · obtain ⟨ha, rfl⟩ := hz
            have NB := Lib.hid (ventB_none (lim := lim) ha)
            go_wp2_with fail
            go_round
            case rel => exact ⟨1, by omega, rfl, Lib.hid (fun t ht => by have t0 : t = 0 := (by omega); rw [t0]; exact NB.out)⟩
            case measure => simp [intOf]
          · have hc : a = 0 ∨ (i : Int) ≠ 0 := by omega
            obtain ⟨be, vb⟩ := ventB_of (lim := lim) a0 hlt hc
            have r := boundV_range a i
            have RB := fun w => rbnd_val (v := i) w a0 hlt hc
            obtain ⟨bv, hbv⟩ : ∃ bv, boundV a i = bv := ⟨_, rfl⟩
            rw [hbv] at RB vb r
            have HRB := Lib.hid RB; clear RB be hbv
            by_cases hle : bv + a ≤ lim
            · obtain ⟨e1, e2⟩ := EN.out i hlt HP.out (by rw [vb]; exact decide_eq_true hle)
              have E1 := Lib.hid e1; have E2 := Lib.hid e2; clear e1 e2 vb
              go_wp2_with fail
              all_goals refine (HRB.out _).mono ?_
              all_goals rintro e w1 ⟨rfl, rfl⟩
              all_goals go_wp2_with fail
              all_goals rw [E1.out, E2.out]
              all_goals go_ret2
              all_goals exact ⟨rfl, rfl⟩
            · have NB := Lib.hid (show ventB a lim i = false by rw [vb]; exact decide_eq_false hle)
              clear vb
              have NX := Lib.hid (show ∀ t, t < i + 1 → ventB a lim t = false from fun t ht => by
                by_cases h : t < i
                · exact HP.out t h
                · have e : t = i := (by omega)
                  rw [e]; exact NB.out)
              go_wp2_with fail
              all_goals refine (HRB.out _).mono ?_
              all_goals rintro e w1 ⟨rfl, rfl⟩
              all_goals go_wp2_with fail
              all_goals go_round
              all_goals first | exact ⟨i + 1, by omega, by go_num, NX⟩ | (simp [intOf]; omega)
        · obtain rfl : i = 1001 := by omega
          obtain ⟨e1, e2⟩ := EX.out HP.out
          have E1 := Lib.hid e1; have E2 := Lib.hid e2; clear e1 e2
          go_wp2_with fail
          rw [E1.out, E2.out]
          go_ret2
          exact ⟨rfl, rfl⟩
end Go.Proofs.Ytecbacbecopbeaa
