/- Contracts of the reference's strong, draw. No conditions beyond each theorem's own. -/
import Derived.Test.YticgkhoidgkejaaGi
set_option linter.unusedVariables false
set_option linter.unusedSimpArgs false
set_option linter.unusedSectionVars false
set_option linter.constructorNameAsVariable false
namespace Go.Proofs.Yticgkhoidgkejaa
open Go.RowKit

attribute [local go_sem] gw_cell gw_frozen gw_size

attribute [local go_sem] field_lo field_hi
attribute [local go_sem ↓] run_minZ run_maxZ run_minZ3

/-- the boxes of draw: the curve, the pot, two results, a span -/
structure DBx (W : World) (B : Nat) (aL aV : Option Addr) (n cL cV : Nat) (v lo hi oL oH : Int) (S : Nat) : Prop where
  c0 : W.cell? ⟨B, 0, none⟩ = some (.slice aL n cL)
  c1 : W.cell? ⟨B, 1, none⟩ = some (.slice aV n cV)
  p0 : W.cell? ⟨B + 1, 0, none⟩ = some (.int .i64 v)
  p1 : W.cell? ⟨B + 1, 1, none⟩ = some (.int .i64 lo)
  p2 : W.cell? ⟨B + 1, 2, none⟩ = some (.int .i64 hi)
  s0 : W.cell? ⟨S, 0, none⟩ = some (.int .i64 oL)
  s1 : W.cell? ⟨S, 1, none⟩ = some (.int .i64 oH)
  sz : B + 4 ≤ S ∧ S < W.heap.size

end Go.Proofs.Yticgkhoidgkejaa
