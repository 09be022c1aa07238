/- Contracts of rises, of Check, of the reference's test of a table. No conditions beyond each theorem's own. -/
import Derived.Test.YtohcopdfdmjhnaaSc
import Derived.Test.YtohcopdfdmjhnaaPd
set_option linter.unusedVariables false
set_option linter.unusedSimpArgs false
set_option linter.unusedSectionVars false
set_option linter.constructorNameAsVariable false
namespace Go.Proofs.Ytohcopdfdmjhnaa.L1
open Go.RowKit
open Go.Proofs.Ytohcopdfdmjhnaa

attribute [local go_sem] gw_cell gw_frozen gw_size

/-- numbers rise, within limits -/
def risB (L : Nat → Int) (lo hi : Int) (i : Nat) : Bool := inB (L i) lo hi && (decide (i = 0) || decide (L (i - 1) < L i))
def risesB (L : Nat → Int) (n : Nat) (lo hi : Int) : Bool := allB n (risB L lo hi)
theorem risesB_t {L : Nat → Int} {n : Nat} {lo hi : Int} (h : risesB L n lo hi = true) : Rises L n ∧ ∀ i, i < n → lo ≤ L i ∧ L i ≤ hi := by
  have h' := allB_t.1 h
  refine ⟨fun i hi => ?_, fun i hi => ?_⟩
  · have := h' (i + 1) hi
    simp [risB] at this
    exact this.2
  · have := h' i hi
    simp only [risB, Bool.and_eq_true] at this
    exact inB_t.1 this.1

set_option maxRecDepth 100000 in
set_option maxHeartbeats 1000000 in
theorem rises_any (a : Option Addr) (n c : Nat) (L : Nat → Int) (lo hi : Int) (w : World) (hn : n ≤ 9223372036854775807) (hS : IntsAt w a n L) :
    Calls Try.prog 68 #[.slice a n c, .int .i64 lo, .int .i64 hi] w fun e w' => e = .returned (.bool (risesB L n lo hi)) ∧ w = w' := by
  have HS := Lib.hid hS; clear hS
  go_enter Try.func68, Try.ntmps68
  go_wp2_with fail
  go_loop [11] (fun t => ∃ k : Nat, k ≤ n ∧ t = .int .i64 k ∧ Hid (∀ i, i < k → risB L lo hi i = true)) (fun t => n - (intOf t).toNat)
  case atStart => exact ⟨0, Nat.zero_le _, rfl, Lib.hid (fun i hi => by omega)⟩
  case round =>
    obtain ⟨k, hk, rfl, hall⟩ := hrel
    by_cases hlt : k < n
    · rcases HS.out with h0 | ⟨b, off, rfl, lb0, hc⟩
      · omega
      have x1 := hc k hlt
      cases h1 : inB (L k) lo hi with
      | false =>
        have HF := Lib.hid (show risesB L n lo hi = false from allB_f hlt (by unfold risB; rw [h1]; rfl))
        have T1 := Lib.hid h1; clear h1 hc
        go_wp2_with fail
        refine (within_b _ _ _ _ T1.out).mono ?_
        rintro e w1 ⟨rfl, rfl⟩
        go_wp2_with fail
        go_ret
        exact ⟨by rw [HF.out]; rfl, rfl⟩
      | true =>
        by_cases h0 : k = 0
        · subst h0
          have HT := Lib.hid (show risB L lo hi 0 = true by unfold risB; rw [h1]; rfl)
          have T1 := Lib.hid h1; clear h1 hc
          rw [Nat.add_zero] at x1
          go_wp2_with fail
          refine (within_b _ _ _ _ T1.out).mono ?_
          rintro e w1 ⟨rfl, rfl⟩
          go_wp2_with fail
          go_round
          case rel => exact ⟨0 + 1, by omega, by go_num, Lib.hid (all_succ (P := fun i => risB L lo hi i = true) hall.out HT.out)⟩
          case measure => simp [intOf]; omega
        · have x2 := hc (k - 1) (by omega)
          have e1 : ((k : Int) - 1).toNat = k - 1 := by omega
          have g0 : 0 < (k : Int) := by omega
          obtain ⟨u, hu⟩ : ∃ u, L (k - 1) = u := ⟨_, rfl⟩
          rw [hu] at x2
          by_cases h2 : L k ≤ u
          · have HF := Lib.hid (show risesB L n lo hi = false from allB_f hlt (by unfold risB; rw [hu, decide_eq_false (show ¬ u < L k by omega), decide_eq_false h0]; simp))
            have T1 := Lib.hid h1; have HU := Lib.hid hu; clear h1 hc hu
            go_wp2_with fail
            refine (within_b _ _ _ _ T1.out).mono ?_
            rintro e w1 ⟨rfl, rfl⟩
            go_wp2_with fail
            go_ret
            exact ⟨by rw [HF.out]; rfl, rfl⟩
          · have HT := Lib.hid (show risB L lo hi k = true by unfold risB; rw [h1, hu, decide_eq_true (show u < L k by omega)]; simp)
            have T1 := Lib.hid h1; have HU := Lib.hid hu; clear h1 hc hu
            go_wp2_with fail
            refine (within_b _ _ _ _ T1.out).mono ?_
            rintro e w1 ⟨rfl, rfl⟩
            go_wp2_with fail
            go_round
            case rel => exact ⟨k + 1, by omega, by go_num, Lib.hid (all_succ (P := fun i => risB L lo hi i = true) hall.out HT.out)⟩
            case measure => simp [intOf]; omega
    · obtain rfl : n = k := by omega
      have HT := Lib.hid (show risesB L n lo hi = true from allB_t.2 hall.out)
      go_wp2_with fail
      go_ret
      exact ⟨by rw [HT.out]; rfl, rfl⟩

set_option maxRecDepth 100000 in
set_option maxHeartbeats 1000000 in
theorem rrises_any (a : Option Addr) (n c : Nat) (L : Nat → Int) (lo hi : Int) (w : World) (hn : n ≤ 9223372036854775806) (hS : IntsAt w a n L) :
    Calls Try.prog 57 #[.slice a n c, .int .i64 lo, .int .i64 hi] w fun e w' => e = .returned (.bool (risesB L n lo hi)) ∧ Below w.heap.size w w' := by
  have HS := Lib.hid hS; clear hS
  go_enter Try.func57, Try.ntmps57
  go_wp2_with fail
  go_loopw [7] (fun t wr => ∃ k : Nat, k ≤ n ∧ t = .int .i64 k ∧ Hid (∀ i, i < k → risB L lo hi i = true) ∧ ∃ x, wr = gw w x) (fun t _ => n - (intOf t).toNat)
  case atStart => exact ⟨0, Nat.zero_le _, rfl, Lib.hid (fun i hi => by omega), ⟨#[], w.drawn⟩, by simp [gw]⟩
  case round =>
    obtain ⟨k, hk, rfl, hall, x, rfl⟩ := hrel
    by_cases hlt : k < n
    · rcases HS.out with h0 | ⟨b, off, rfl, lb0, hc⟩
      · omega
      have x1 := hc k hlt
      cases h1 : inB (L k) lo hi with
      | false =>
        have HF := Lib.hid (show risesB L n lo hi = false from allB_f hlt (by unfold risB; rw [h1]; rfl))
        have T1 := Lib.hid h1; clear h1 hc
        go_upto_region 4 with (fail)
        refine wp_region_gw2 (by kernel_rfl) (by kernel_rfl) ?_
        repeat (go_big_quiet_step ((go_at_call 56; exact Calls.gw_of_same (rin_b _ _ _ _ T1.out))))
        refine wpQuiet_nil ?_
        rintro _ ⟨z, rfl⟩
        go_wp2_with fail
        go_ret
        exact ⟨by rw [HF.out]; rfl, below_gw w z⟩
      | true =>
        by_cases h0 : k = 0
        · subst h0
          have HT := Lib.hid (show risB L lo hi 0 = true by unfold risB; rw [h1]; rfl)
          have T1 := Lib.hid h1; clear h1 hc
          rw [Nat.add_zero] at x1
          go_upto_region 4 with (fail)
          refine wp_region_gw2 (by kernel_rfl) (by kernel_rfl) ?_
          repeat (go_big_quiet_step ((go_at_call 56; exact Calls.gw_of_same (rin_b _ _ _ _ T1.out))))
          refine wpQuiet_nil ?_
          rintro _ ⟨z, rfl⟩
          go_wp2_with fail
          go_roundw
          case rel => exact ⟨0 + 1, by omega, by go_num, Lib.hid (all_succ (P := fun i => risB L lo hi i = true) hall.out HT.out), z, rfl⟩
          case measure => simp [intOf]; omega
        · have x2 := hc (k - 1) (by omega)
          have e1 : ((k : Int) - 1).toNat = k - 1 := by omega
          have g0 : 0 < (k : Int) := by omega
          have g1 : 0 < k := by omega
          have g2 : ¬ k = 0 := h0
          obtain ⟨u, hu⟩ : ∃ u, L (k - 1) = u := ⟨_, rfl⟩
          rw [hu] at x2
          by_cases h2 : L k ≤ u
          · have HF := Lib.hid (show risesB L n lo hi = false from allB_f hlt (by unfold risB; rw [hu, decide_eq_false (show ¬ u < L k by omega), decide_eq_false h0]; simp))
            have T1 := Lib.hid h1; have HU := Lib.hid hu; clear h1 hc hu
            go_upto_region 4 with (fail)
            refine wp_region_gw2 (by kernel_rfl) (by kernel_rfl) ?_
            repeat (go_big_quiet_step ((go_at_call 56; exact Calls.gw_of_same (rin_b _ _ _ _ T1.out))))
            refine wpQuiet_nil ?_
            rintro _ ⟨z, rfl⟩
            go_wp2_with fail
            go_ret
            exact ⟨by rw [HF.out]; rfl, below_gw w z⟩
          · have HT := Lib.hid (show risB L lo hi k = true by unfold risB; rw [h1, hu, decide_eq_true (show u < L k by omega)]; simp)
            have T1 := Lib.hid h1; have HU := Lib.hid hu; clear h1 hc hu
            go_upto_region 4 with (fail)
            refine wp_region_gw2 (by kernel_rfl) (by kernel_rfl) ?_
            repeat (go_big_quiet_step ((go_at_call 56; exact Calls.gw_of_same (rin_b _ _ _ _ T1.out))))
            refine wpQuiet_nil ?_
            rintro _ ⟨z, rfl⟩
            go_wp2_with fail
            go_roundw
            case rel => exact ⟨k + 1, by omega, by go_num, Lib.hid (all_succ (P := fun i => risB L lo hi i = true) hall.out HT.out), z, rfl⟩
            case measure => simp [intOf]; omega
    · obtain rfl : n = k := by omega
      have HT := Lib.hid (show risesB L n lo hi = true from allB_t.2 hall.out)
      go_wp2_with fail
      go_ret
      exact ⟨by rw [HT.out]; rfl, below_gw w x⟩
end Go.Proofs.Ytohcopdfdmjhnaa.L1
