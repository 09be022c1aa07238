/- Ferment's vats as a list and as a row. No conditions beyond each theorem's own. -/
import Derived.Test.YtecbacbecopbeaaBo
set_option linter.unusedVariables false
set_option linter.unusedSimpArgs false
set_option linter.unusedSectionVars false
set_option linter.constructorNameAsVariable false
namespace Go.Proofs.Ytecbacbecopbeaa
open Go.RowKit

/-- Ferment's vats as a list -/
theorem fer_list {y : Yst} {v : Vat} {k : Nat} {F G : Nat → Int} {w : World} {e : Ending} {w' : World} (h : FerR y v k F G w e w') :
    ∃ a c, e = .returned (.tuple #[.slice a (ferN y v k F G) c, .int .i64 (ferE y v k F G)]) ∧ TupsAt w' a 13 (ferN y v k F G) (fun i q => (y.vs v F G (i + 1)).num q) ∧ Below w.heap.size w w' := by
  obtain ⟨vl, rfl, hO, hB⟩ := h
  obtain ⟨a, c, rfl, hS⟩ := tups_of_own hO
  exact ⟨a, c, rfl, hS, hB⟩
theorem ferN_le (y : Yst) (v : Vat) (k : Nat) (F G : Nat → Int) : ferN y v k F G ≤ k := by unfold ferN; split <;> omega

theorem infoVat2 : (Try.prog.info? 38).map (fun i => (i.zero, i.size)) = some (some (.agg #[.int .i64 0, .int .i64 0, .int .i64 0, .int .i64 0, .int .i64 0, .int .i64 0, .int .i64 0, .int .i64 0, .int .i64 0, .int .i64 0, .int .i64 0, .int .i64 0, .int .i64 0]), 13) := by kernel_rfl
theorem fer_own {y : Yst} {v : Vat} {k : Nat} {F G : Nat → Int} (h0 : ferE y v k F G = 0) {w : World} {e : Ending} {w' : World} (h : FerR y v k F G w e w') :
    ∃ vl, e = .returned (.tuple #[vl, .int .i64 0]) ∧ w'.ownsRow w.heap.size 38 13 vl k (y.outs v F G k) ∧ Below w.heap.size w w' := by
  obtain ⟨vl, rfl, hO, hB⟩ := h
  rw [h0]
  rw [show ferN y v k F G = k from if_pos h0] at hO
  exact ⟨vl, rfl, hO, hB⟩
theorem fer_tups {y : Yst} {v : Vat} {k : Nat} {F G : Nat → Int} (h0 : ferE y v k F G = 0) {w : World} {e : Ending} {w' : World} (h : FerR y v k F G w e w') :
    ∃ a c, e = .returned (.tuple #[.slice a k c, .int .i64 0]) ∧ TupsAt w' a 13 k (fun i q => (y.vs v F G (i + 1)).num q) ∧ Below w.heap.size w w' := by
  obtain ⟨vl, he, hO, hB⟩ := fer_own h0 h
  obtain ⟨a, c, rfl, hS⟩ := tups_of_own hO
  exact ⟨a, c, he, hS, hB⟩
end Go.Proofs.Ytecbacbecopbeaa
