/- Own laws: a deferred function's region that draws its order and recovers. Own laws: a range over a function whose iterator may panic, in the wide fence. Plain words: the five stores of Run's results. Own law: append of one owned row to another one, in a guarded operation too. No conditions beyond each theorem's own. -/
import Derived.Test.YthmnlakgcoojhaaGa
import Derived.Recover
import Derived.Orders
import Derived.RecoverIn
import Derived.RangeFuncNested
import Derived.Laws.AppendOwnNone
import Derived.Deep.RegionHeld
set_option linter.unusedVariables false
set_option linter.unusedSimpArgs false
set_option linter.unusedSectionVars false
set_option linter.constructorNameAsVariable false
namespace Go
section
variable {P : Program} {ops : Array Oper} {Q : Exit → Act → List Frame → World → Prop} {md : Region.Mode}

end
end Go

namespace Go
open Go.RowKit
variable {n : Nat} {P : Program}

end Go

namespace Go.Proofs.Ythmnlakgcoojhaa.L4
open Go.RowKit

theorem five_stores {W5 : World} {N n2 n3 n4 : Nat} (t2 t3 t4 : TypeId) {u2 v2 a0 a1 a2 v0 v1 v3 u4 v4 : Value} (h2 : N ≤ n2) (h3 : N ≤ n3) (h4 : N ≤ n4) (h23 : n2 ≠ n3) (h24 : n2 ≠ n4) (h34 : n3 ≠ n4)
    (K2 : W5.heap[n2]? = some (.cells #[u2] t2 (0, 0))) (K3 : W5.heap[n3]? = some (.cells #[a0, a1, a2] t3 (0, 0))) (K4 : W5.heap[n4]? = some (.cells #[u4] t4 (0, 0))) {X : World}
    (hX : (((((W5.setCell ⟨n2, 0, none⟩ v2).setCell ⟨n3, 0, none⟩ v0).setCell ⟨n3, 1, none⟩ v1).setCell ⟨n3, 2, none⟩ v3).setCell ⟨n4, 0, none⟩ v4).drew = X) :
    (∀ B, B ≠ n2 → B ≠ n3 → B ≠ n4 → X.heap[B]? = W5.heap[B]?) ∧ X.heap[n2]? = some (.cells #[v2] t2 (0, 0)) ∧ X.heap[n3]? = some (.cells #[v0, v1, v3] t3 (0, 0)) ∧ X.heap[n4]? = some (.cells #[v4] t4 (0, 0)) ∧ Below N W5 X := by
  have far : ∀ (W : World) (b k : Nat) (v : Value) (B : Nat), B ≠ b → (W.setCell ⟨b, k, none⟩ v).heap[B]? = W.heap[B]? := fun W b k v B h => Below.heap_setCell W ⟨b, k, none⟩ v B h
  have dr : ∀ (W : World) (B : Nat), W.drew.heap[B]? = W.heap[B]? := fun _ _ => rfl
  subst hX
  refine ⟨fun B b2 b3 b4 => ?_, ?_, ?_, ?_, ?_⟩
  · rw [dr, far _ _ _ _ _ b4, far _ _ _ _ _ b3, far _ _ _ _ _ b3, far _ _ _ _ _ b3, far _ _ _ _ _ b2]
  · rw [dr, far _ _ _ _ _ h24, far _ _ _ _ _ h23, far _ _ _ _ _ h23, far _ _ _ _ _ h23]
    exact block_set 0 _ K2
  · rw [dr, far _ _ _ _ _ h34]
    exact block_set 2 _ (block_set 1 _ (block_set 0 _ ((far _ _ _ _ _ (Ne.symm h23)).trans K3)))
  · rw [dr]
    exact block_set 0 _ ((far _ _ _ _ _ (Ne.symm h34)).trans ((far _ _ _ _ _ (Ne.symm h34)).trans ((far _ _ _ _ _ (Ne.symm h34)).trans ((far _ _ _ _ _ (Ne.symm h24)).trans K4))))
  · exact ((((((Below.refl _ W5).setCell (p := ⟨n2, 0, none⟩) h2 _).setCell (p := ⟨n3, 0, none⟩) h3 _).setCell (p := ⟨n3, 1, none⟩) h3 _).setCell (p := ⟨n3, 2, none⟩) h3 _).setCell (p := ⟨n4, 0, none⟩) h4 _).drew

end Go.Proofs.Ythmnlakgcoojhaa.L4

namespace Go
open Go.RowKit
section
variable {P : Program} {w : World}
end
end Go
