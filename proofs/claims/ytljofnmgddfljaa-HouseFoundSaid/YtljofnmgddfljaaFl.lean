/- A slice of one number is made. No conditions beyond the theorem own. -/
import Derived.Test.YtljofnmgddfljaaFf
set_option linter.unusedVariables false
set_option linter.unusedSimpArgs false
set_option linter.unusedSectionVars false
set_option linter.constructorNameAsVariable false
namespace Go.Proofs.Ytljofnmgddfljaa
open Go.RowKit

set_option maxHeartbeats 1000000 in
/-- a slice of one number is made -/
theorem build_day {K : Act → World → Prop} {Q' : Exit → Act → World → Prop} {a : Act} {w : World} {t : Nat} {day : Int} (o : Oper) (ho : o.op = .buildSlice 74 1 #[(0, .tmp t)]) (ha : a.eval (.tmp t) = .int .i64 day)
    (h : K (a.put o.dst (.slice (some ⟨w.heap.size, 0, none⟩) 1 1)) (w.alloc (.cells #[.int .i64 day] 3))) : o.wp Try.prog a w K Q' := by
  obtain ⟨dst, op, type, pos, after, guard⟩ := o
  simp only at ho
  subst ho
  have ha' : a.tmps[t]?.getD undef = .int .i64 day := by simpa [Act.eval] using ha
  unfold Oper.wp
  simp [execOp, ha', go_sem]
  exact h

end Go.Proofs.Ytljofnmgddfljaa
