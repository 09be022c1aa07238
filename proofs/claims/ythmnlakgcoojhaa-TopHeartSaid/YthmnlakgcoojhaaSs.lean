/- Contract of Pure. No conditions beyond each theorem's own. -/
import Derived.Test.YthmnlakgcoojhaaSr
set_option linter.unusedVariables false
set_option linter.unusedSimpArgs false
set_option linter.unusedSectionVars false
set_option linter.constructorNameAsVariable false
namespace Go.Proofs.Ythmnlakgcoojhaa.L1
open Go.RowKit
open Go.Proofs.Ythmnlakgcoojhaa

attribute [local go_sem] gw_cell gw_frozen gw_size

theorem partB_t {a b c d : Int} (h : partB a b c d = true) : 0 ≤ a ∧ a ≤ b ∧ b ≤ 1099511627776 ∧ 0 ≤ c ∧ c ≤ d ∧ d ≤ 10000 := by
  simp only [partB, spanB, Bool.and_eq_true, decide_eq_true_eq] at h
  omega
end Go.Proofs.Ythmnlakgcoojhaa.L1
