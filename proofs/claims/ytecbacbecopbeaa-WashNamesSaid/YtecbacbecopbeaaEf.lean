/- Closed facts of the chapter's example. No conditions beyond each theorem's own. -/
import Derived.Test.YtecbacbecopbeaaBq
import Derived.Test.YtecbacbecopbeaaBr
import Derived.Test.YtecbacbecopbeaaCe
import Derived.Test.YtecbacbecopbeaaCk
import Derived.Test.YtecbacbecopbeaaEa
set_option linter.unusedVariables false
set_option linter.unusedSimpArgs false
set_option linter.unusedSectionVars false
set_option linter.constructorNameAsVariable false
namespace Go.Proofs.Ytecbacbecopbeaa
open Go.RowKit

def zF (_ : Nat) : Int := 0
def chFs (i : Nat) : Int := [0, 1000].getD i 0
def chGs (i : Nat) : Int := [0, 1200].getD i 0
def hF (_ : Nat) : Int := 100
theorem nm_hourE (bT bR : Nat) : hourE (sampY bT bR) sampV 0 0 = 0 := by kernel_rfl
theorem nm_hourV (bT bR : Nat) : hourV (sampY bT bR) sampV 0 0 = ⟨900000, 950000, 50000, 100000, 32000, 65000, 24000, 49000, 24000, 49000, 25750, 26500, 40000000⟩ := by kernel_rfl
theorem nm_firstE (bT bR : Nat) : firstE (sampY bT bR) sampV 6 zF zF 20000 29000 = 0 := by kernel_rfl
theorem nm_firstN (bT bR : Nat) : firstN (sampY bT bR) sampV 6 zF zF 20000 29000 = 2 := by kernel_rfl
theorem nm_coolE (bT bR : Nat) : Ctx.coolE ⟨sampY bT bR, 2, chFs, chGs, 23500, 27600⟩ sampV 4 = 0 := by kernel_rfl
theorem nm_coolL (bT bR : Nat) : Ctx.coolL ⟨sampY bT bR, 2, chFs, chGs, 23500, 27600⟩ sampV 4 = [0, 1, 1, 1] := by kernel_rfl
theorem nm_noneE (bT bR : Nat) : Ctx.coolE ⟨sampY bT bR, 2, chFs, chGs, 24000, 27600⟩ sampV 4 = 4 := by kernel_rfl
theorem nm_noneL (bT bR : Nat) : Ctx.coolL ⟨sampY bT bR, 2, chFs, chGs, 24000, 27600⟩ sampV 4 = [] := by kernel_rfl
theorem nm_airE : airE 0 0 3 hF hF 500 = 0 := by kernel_rfl
theorem nm_airN : airN 0 0 3 hF hF 500 = 3 := by kernel_rfl
theorem nm_bound1 : boundV 100 500 = 100 ∧ boundE 100 500 = 0 := ⟨by kernel_rfl, by kernel_rfl⟩
theorem nm_bound2 : boundV 100 250 = 300 ∧ boundE 100 250 = 0 := ⟨by kernel_rfl, by kernel_rfl⟩
theorem nm_bound3 : boundV 100 1000 = 0 ∧ boundE 100 1000 = 0 := ⟨by kernel_rfl, by kernel_rfl⟩
theorem nm_ventN : ventN 100 99 = 1001 := okN_all 1001 fun i _ => by
  have h : ventB 100 99 i = false := by
    unfold ventB
    have := (boundV_range 100 i).1
    rw [decide_eq_false (show ¬ boundV 100 i + 100 ≤ 99 by omega)]
    simp
  rw [h]
  rfl
theorem nm_ventE : ventE 100 99 = 12 := by unfold ventE; rw [nm_ventN]; kernel_rfl
theorem nm_ventV : ventV 100 99 = 0 := by unfold ventV; rw [nm_ventE]; rfl
end Go.Proofs.Ytecbacbecopbeaa
