/- Contracts of the reference's SameDrawn and Ints at equal lists. No conditions beyond each theorem's own. -/
import Derived.Test.YtnmldophadanbaaLm
set_option linter.unusedVariables false
set_option linter.unusedSimpArgs false
set_option linter.unusedSectionVars false
set_option linter.constructorNameAsVariable false
namespace Go.Proofs.Ytnmldophadanbaa
open Go.RowKit

attribute [local go_sem] gw_cell gw_frozen gw_size

set_option maxHeartbeats 1000000 in
theorem sameDrawn_t (a b : Option Addr) (n ca cb : Nat) (D : Nat → Dr3) (w : World) (hn : n ≤ 9223372036854775807) (hA : DrawnAt w a n D) (hB : DrawnAt w b n D) :
    Calls Try.prog 25 #[.slice a n ca, .slice b n cb] w fun e w' => e = .returned (.bool true) ∧ ∃ x, w' = gw w x := by
  have HA := Lib.hid hA; clear hA
  have HB := Lib.hid hB; clear hB
  go_enter Try.func25, Try.ntmps25
  go_wp2_with fail
  go_loopw [5] (fun i wr => ∃ k : Nat, k ≤ n ∧ i = .int .i64 k ∧ ∃ x, wr = gw w x) (fun i _ => n - (intOf i).toNat)
  case atStart => exact ⟨0, Nat.zero_le _, rfl, ⟨#[], w.drawn⟩, by simp [gw]⟩
  case round =>
    obtain ⟨k, hk, rfl, x, rfl⟩ := hrel
    by_cases hlt : k < n
    · obtain ⟨b1, o1, rfl, l1, h1⟩ := HA.out.get (by omega)
      obtain ⟨b2, o2, rfl, l2, h2⟩ := HB.out.get (by omega)
      obtain ⟨d1, d2, d3⟩ := h1 k hlt
      obtain ⟨e1, e2, e3⟩ := h2 k hlt
      clear h1 h2
      go_wp2_with fail
      refine wp_region_gw2 (by kernel_rfl) (by kernel_rfl) ?_
      repeat (go_big_quiet_step (fail))
      refine wpQuiet_nil ?_
      rintro _ ⟨z, rfl⟩
      go_wp2_with fail
      go_roundw
      case rel => exact ⟨k + 1, by omega, by go_num, z, rfl⟩
      case measure => simp [intOf]; omega
    · obtain rfl : n = k := by omega
      go_wp2_with fail
      go_ret
      exact ⟨rfl, x, rfl⟩

set_option maxHeartbeats 1000000 in
theorem sameInts_t (a b : Option Addr) (n ca cb : Nat) (D : Nat → Int) (w : World) (hn : n ≤ 9223372036854775807) (hA : IntsAt w a n D) (hB : IntsAt w b n D) :
    Calls Try.prog 36 #[.slice a n ca, .slice b n cb] w fun e w' => e = .returned (.bool true) ∧ ∃ x, w' = gw w x := by
  have HA := Lib.hid hA; clear hA
  have HB := Lib.hid hB; clear hB
  go_enter Try.func36, Try.ntmps36
  go_wp2_with fail
  go_loopw [5] (fun i wr => ∃ k : Nat, k ≤ n ∧ i = .int .i64 k ∧ ∃ x, wr = gw w x) (fun i _ => n - (intOf i).toNat)
  case atStart => exact ⟨0, Nat.zero_le _, rfl, ⟨#[], w.drawn⟩, by simp [gw]⟩
  case round =>
    obtain ⟨k, hk, rfl, x, rfl⟩ := hrel
    by_cases hlt : k < n
    · obtain ⟨b1, o1, rfl, l1, h1⟩ := ints_get HA.out (by omega)
      obtain ⟨b2, o2, rfl, l2, h2⟩ := ints_get HB.out (by omega)
      have d1 := h1 k hlt
      have e1 := h2 k hlt
      clear h1 h2
      go_wp2_with fail
      refine wp_region_gw2 (by kernel_rfl) (by kernel_rfl) ?_
      repeat (go_big_quiet_step (fail))
      refine wpQuiet_nil ?_
      rintro _ ⟨z, rfl⟩
      go_wp2_with fail
      go_roundw
      case rel => exact ⟨k + 1, by omega, by go_num, z, rfl⟩
      case measure => simp [intOf]; omega
    · obtain rfl : n = k := by omega
      go_wp2_with fail
      go_ret
      exact ⟨rfl, x, rfl⟩
end Go.Proofs.Ytnmldophadanbaa
