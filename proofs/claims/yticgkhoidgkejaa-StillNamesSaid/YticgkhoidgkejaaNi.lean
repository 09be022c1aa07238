/- Contracts of the reference's Draw. No conditions beyond each theorem's own. -/
import Derived.Test.YticgkhoidgkejaaNh
import Derived.Test.YticgkhoidgkejaaGj
import Derived.Test.YticgkhoidgkejaaGh
set_option linter.unusedVariables false
set_option linter.unusedSimpArgs false
set_option linter.unusedSectionVars false
set_option linter.constructorNameAsVariable false
namespace Go.Proofs.Yticgkhoidgkejaa
open Go.RowKit

attribute [local go_sem] gw_cell gw_frozen gw_size

/-- the boxes of Draw -/
structure FB (w W : World) (aL aV : Option Addr) (n m cL cV : Nat) (v lo hi : Int) : Prop where
  b1 : W.heap[w.heap.size]? = some (.cells #[.slice aL n cL, .slice aV m cV] 25 (0, 0))
  b2 : W.heap[w.heap.size + 1]? = some (.cells #[.int .i64 v, .int .i64 lo, .int .i64 hi] 29 (0, 0))
  b3 : W.heap[w.heap.size + 2]? = some (.cells #[.int .i64 0, .int .i64 0, .int .i64 0] 36 (0, 0))
  b4 : W.heap[w.heap.size + 3]? = some (.cells #[.int .i64 0, .int .i64 0, .int .i64 0] 29 (0, 0))
  sz : w.heap.size + 4 ≤ W.heap.size
  low : Below w.heap.size w W
theorem fb_of (w : World) (aL aV : Option Addr) (n m cL cV : Nat) (v lo hi : Int) :
    FB w ((((w.alloc (.cells #[.slice aL n cL, .slice aV m cV] 25)).alloc (.cells #[.int .i64 v, .int .i64 lo, .int .i64 hi] 29)).alloc (.cells #[.int .i64 0, .int .i64 0, .int .i64 0] 36)).alloc (.cells #[.int .i64 0, .int .i64 0, .int .i64 0] 29)) aL aV n m cL cV v lo hi := by
  obtain ⟨W1, hW1⟩ : ∃ W1, (((w.alloc (.cells #[.slice aL n cL, .slice aV m cV] 25)).alloc (.cells #[.int .i64 v, .int .i64 lo, .int .i64 hi] 29)).alloc (.cells #[.int .i64 0, .int .i64 0, .int .i64 0] 36)).alloc (.cells #[.int .i64 0, .int .i64 0, .int .i64 0] 29) = W1 := ⟨_, rfl⟩
  obtain ⟨y0, y1, y2, y3, y4, _⟩ := five_blocks w (.cells #[.slice aL n cL, .slice aV m cV] 25) (.cells #[.int .i64 v, .int .i64 lo, .int .i64 hi] 29) (.cells #[.int .i64 0, .int .i64 0, .int .i64 0] 36) (.cells #[.int .i64 0, .int .i64 0, .int .i64 0] 29) (.cells #[] 3)
  have hz : W1.heap.size = w.heap.size + 4 := by rw [← hW1]; simp
  have back : ∀ k, k < w.heap.size + 4 → (W1.alloc (.cells #[] 3)).heap[k]? = W1.heap[k]? := fun k hk => Below.heap_alloc _ _ _ (by omega)
  rw [hW1] at y1 y2 y3 y4 ⊢
  exact ⟨(back _ (by omega)).symm.trans y1, (back _ (by omega)).symm.trans y2, (back _ (by omega)).symm.trans y3, (back _ (by omega)).symm.trans y4, by omega, by rw [← hW1]; exact (((below_alloc _ _).alloc (by simp) _).alloc (by simp; omega) _).alloc (by simp; omega) _⟩

/-- why an amount cannot be drawn from a pot -/
def drawErr (m : Nat) (c : Crv) (p : Pot3) (d : Int) : Int := if curveB c.n m c.L c.A c.B && potB p.v p.lo p.hi then errD p d else 1

section
variable (aL aV : Option Addr) (m cL cV : Nat) (c : Crv) (p : Pot3) (d : Int) (w : World)

end
end Go.Proofs.Yticgkhoidgkejaa
