/- Contracts of the library (Clone, DeleteFunc, Mul64, LeadingZeros64) laid at this program. Contract of what gives the marks of a span. No conditions beyond each theorem's own. -/
import Derived.Test.YthmnlakgcoojhaaSc
import Derived.Test.YthmnlakgcoojhaaPc
import Derived.Shelf.SlicesE.DeleteFunc
import Derived.Shelf.SlicesE.Clone
import Derived.Shelf.Bits.Mul64
import Derived.Shelf.Small.Bits
import Derived.Lib.OwnBridge
set_option linter.unusedVariables false
set_option linter.unusedSimpArgs false
set_option linter.unusedSectionVars false
set_option linter.constructorNameAsVariable false
namespace Go.Proofs.Ythmnlakgcoojhaa.L1
open Go.Shelf
def mulL_ren : Go.Shelf.Ren := ⟨fun | 264 => 23 | n => n, fun | 53 => 76 | 46 => 104 | n => n, fun | n => n⟩
theorem mulL : Go.Proofs.Lays.n264 Try.prog mulL_ren := {
  mixed := by kernel_rfl
  f264 := Try.func23.trans (congrArg some (by kernel_rfl))
  t46 := Try.underlying104
  a46 := Try.isAgg104
  z46 := Try.sizeOf104
  v46 := Try.zeroValue104
  t53 := Try.underlying76
  a53 := Try.isAgg76
  z53 := Try.sizeOf76
  v53 := Try.zeroValue76 }
def lzL_ren : Go.Shelf.Ren := ⟨fun | 134 => 41 | 129 => 54 | n => n, fun | 53 => 76 | 3 => 3 | 4 => 4 | 46 => 104 | 5 => 5 | 9 => 9 | n => n, fun | n => n⟩
theorem lzL : Go.Proofs.Lays.n134 Try.prog lzL_ren := {
  mixed := by kernel_rfl
  f129 := Try.func54.trans (congrArg some (by kernel_rfl))
  f134 := Try.func41.trans (congrArg some (by kernel_rfl))
  t3 := Try.underlying3
  a3 := Try.isAgg3
  z3 := Try.sizeOf3
  v3 := Try.zeroValue3
  t4 := Try.underlying4
  a4 := Try.isAgg4
  z4 := Try.sizeOf4
  v4 := Try.zeroValue4
  t5 := Try.underlying5
  a5 := Try.isAgg5
  z5 := Try.sizeOf5
  v5 := Try.zeroValue5
  t9 := Try.underlying9
  a9 := Try.isAgg9
  z9 := Try.sizeOf9
  v9 := Try.zeroValue9
  t46 := Try.underlying104
  a46 := Try.isAgg104
  z46 := Try.sizeOf104
  v46 := Try.zeroValue104
  t53 := Try.underlying76
  a53 := Try.isAgg76
  z53 := Try.sizeOf76
  v53 := Try.zeroValue76 }

open Go.RowKit
open Go.Lib
open Go.Sort
open Go.Proofs.Ythmnlakgcoojhaa

attribute [local go_sem] gw_cell gw_frozen gw_size

end Go.Proofs.Ythmnlakgcoojhaa.L1
