/- SameSpans of two like lists. No conditions beyond each theorem's own. -/
import Derived.Test.YtecbacbecopbeaaBt
set_option linter.unusedVariables false
set_option linter.unusedSimpArgs false
set_option linter.unusedSectionVars false
set_option linter.constructorNameAsVariable false
namespace Go.Proofs.Ytecbacbecopbeaa
open Go.RowKit

attribute [local go_sem] gw_cell gw_frozen gw_size

set_option maxHeartbeats 1000000 in
theorem sameSpans_t (a b : Option Addr) (n ca cb : Nat) (F G : Nat → Int) (w : World) (hn : n ≤ 9223372036854775807) (hA : SpansAt w a n F G) (hB : SpansAt w b n F G) :
    Calls Try.prog 44 #[.slice a n ca, .slice b n cb] w fun e w' => e = .returned (.bool true) ∧ Below w.heap.size w w' := by
  have HA := Lib.hid hA; clear hA
  have HB := Lib.hid hB; clear hB
  go_enter Try.func44, Try.ntmps44
  go_wp2_with fail
  go_loopw [5] (fun i wr => ∃ k : Nat, k ≤ n ∧ i = .int .i64 k ∧ ∃ x, wr = gw w x) (fun i _ => n - (intOf i).toNat)
  case atStart => exact ⟨0, Nat.zero_le _, rfl, ⟨#[], w.drawn⟩, by simp [gw]⟩
  case round =>
    obtain ⟨k, hk, rfl, x, rfl⟩ := hrel
    by_cases hlt : k < n
    · rcases HA.out with hz | ⟨b1, o1, rfl, l1, h1⟩
      · omega
      · rcases HB.out with hz | ⟨b2, o2, rfl, l2, h2⟩
        · omega
        · obtain ⟨d0, d1⟩ := h1 k hlt
          obtain ⟨e0, e1⟩ := h2 k hlt
          clear h1 h2
          go_wp2_with fail
          refine wp_region_gw2 (by kernel_rfl) (by kernel_rfl) ?_
          repeat (go_big_quiet_step (fail))
          refine wpQuiet_nil ?_
          rintro _ ⟨z, rfl⟩
          go_wp2_with fail
          go_roundw
          case rel => exact ⟨k + 1, by omega, by go_num, z, rfl⟩
          case measure => simp [intOf]; omega
    · obtain rfl : n = k := by omega
      go_wp2_with fail
      go_ret
      exact ⟨rfl, below_gw w x⟩

def longB (n : Nat) (l h : Int) : Bool := decide (l < n ∧ (n : Int) ≤ h) || decide (h + 4 < n)
set_option maxHeartbeats 1000000 in
theorem long3_any (n : Nat) (l h : Int) (w : World) (hn : n ≤ 9223372036854775807) (hh : 0 ≤ l ∧ l ≤ h ∧ h ≤ 1000000) :
    Calls Try.prog 33 #[.int .i64 n, .int .i64 l, .int .i64 h] w fun e w' => e = .returned (.bool (longB n l h)) ∧ w = w' := by
  unfold longB
  by_cases h1 : l < n <;> by_cases h2 : (n : Int) ≤ h <;> by_cases h3 : h + 4 < n <;> first | omega | skip
  all_goals go_enter Try.func33, Try.ntmps33
  all_goals go_wp2
  all_goals go_ret
  all_goals exact ⟨by simp [h1, h2, h3], rfl⟩
end Go.Proofs.Ytecbacbecopbeaa
