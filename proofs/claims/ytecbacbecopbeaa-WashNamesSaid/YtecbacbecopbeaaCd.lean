/- SameVats of two like lists. No conditions beyond each theorem's own. -/
import Derived.Test.YtecbacbecopbeaaBu
set_option linter.unusedVariables false
set_option linter.unusedSimpArgs false
set_option linter.unusedSectionVars false
set_option linter.constructorNameAsVariable false
namespace Go.Proofs.Ytecbacbecopbeaa
open Go.RowKit

attribute [local go_sem] gw_cell gw_frozen gw_size

set_option maxHeartbeats 2000000 in
theorem sameVats_t (a b : Option Addr) (n ca cb : Nat) (F : Nat → Nat → Int) (w : World) (hn : n ≤ 9223372036854775807) (hA : TupsAt w a 13 n F) (hB : TupsAt w b 13 n F) :
    Calls Try.prog 39 #[.slice a n ca, .slice b n cb] w fun e w' => e = .returned (.bool true) ∧ Below w.heap.size w w' := by
  have HA := Lib.hid hA; clear hA
  have HB := Lib.hid hB; clear hB
  go_enter Try.func39, Try.ntmps39
  go_wp2_with fail
  go_loopw [5] (fun i wr => ∃ k : Nat, k ≤ n ∧ i = .int .i64 k ∧ ∃ x, wr = gw w x) (fun i _ => n - (intOf i).toNat)
  case atStart => exact ⟨0, Nat.zero_le _, rfl, ⟨#[], w.drawn⟩, by simp [gw]⟩
  case round =>
    obtain ⟨k, hk, rfl, x, rfl⟩ := hrel
    by_cases hlt : k < n
    · rcases HA.out with hz | ⟨b1, o1, rfl, l1, h1⟩
      · omega
      · rcases HB.out with hz | ⟨b2, o2, rfl, l2, h2⟩
        · omega
        · skip
          have d0 := h1 k hlt 0 (by omega)
          have d1 := h1 k hlt 1 (by omega)
          have d2 := h1 k hlt 2 (by omega)
          have d3 := h1 k hlt 3 (by omega)
          have d4 := h1 k hlt 4 (by omega)
          have d5 := h1 k hlt 5 (by omega)
          have d6 := h1 k hlt 6 (by omega)
          have d7 := h1 k hlt 7 (by omega)
          have d8 := h1 k hlt 8 (by omega)
          have d9 := h1 k hlt 9 (by omega)
          have d10 := h1 k hlt 10 (by omega)
          have d11 := h1 k hlt 11 (by omega)
          have d12 := h1 k hlt 12 (by omega)
          have e0 := h2 k hlt 0 (by omega)
          have e1 := h2 k hlt 1 (by omega)
          have e2 := h2 k hlt 2 (by omega)
          have e3 := h2 k hlt 3 (by omega)
          have e4 := h2 k hlt 4 (by omega)
          have e5 := h2 k hlt 5 (by omega)
          have e6 := h2 k hlt 6 (by omega)
          have e7 := h2 k hlt 7 (by omega)
          have e8 := h2 k hlt 8 (by omega)
          have e9 := h2 k hlt 9 (by omega)
          have e10 := h2 k hlt 10 (by omega)
          have e11 := h2 k hlt 11 (by omega)
          have e12 := h2 k hlt 12 (by omega)
          simp only [Nat.add_zero] at d0 e0
          clear h1 h2
          go_wp2_with fail
          refine wp_region_gw2 (by kernel_rfl) (by kernel_rfl) ?_
          repeat (go_big_quiet_step (fail))
          refine wpQuiet_nil ?_
          rintro _ ⟨z, rfl⟩
          go_wp2_with fail
          go_roundw
          case rel => exact ⟨k + 1, by omega, by go_num, z, rfl⟩
          case measure => simp [intOf]; omega
    · obtain rfl : n = k := by omega
      go_wp2_with fail
      go_ret
      exact ⟨rfl, below_gw w x⟩
end Go.Proofs.Ytecbacbecopbeaa
