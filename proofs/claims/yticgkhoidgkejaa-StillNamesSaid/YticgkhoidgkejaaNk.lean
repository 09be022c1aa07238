/- Contracts of the reference's Run. No conditions beyond each theorem's own. -/
import Derived.Test.YticgkhoidgkejaaNj
import Derived.Deep.RegionHeld3
import Derived.Deep.DeepCutAuto
set_option linter.unusedVariables false
set_option linter.unusedSimpArgs false
set_option linter.unusedSectionVars false
set_option linter.constructorNameAsVariable false
namespace Go.Proofs.Yticgkhoidgkejaa
open Go.RowKit Go.Deep

attribute [local go_sem] gw_cell gw_frozen gw_size

/-- the boxes of Run -/
structure GB (w W : World) (aL aV : Option Addr) (n m cL cV : Nat) (v lo hi : Int) : Prop where
  b1 : W.heap[w.heap.size]? = some (.cells #[.slice aL n cL, .slice aV m cV] 25 (0, 0))
  b2 : W.heap[w.heap.size + 1]? = some (.cells #[.int .i64 v, .int .i64 lo, .int .i64 hi] 29 (0, 0))
  b3 : W.heap[w.heap.size + 2]? = some (.cells #[.int .i64 0, .int .i64 0, .int .i64 0] 29 (0, 0))
  sz : w.heap.size + 3 ≤ W.heap.size
  low : Below w.heap.size w W
theorem gb_of (w : World) (aL aV : Option Addr) (n m cL cV : Nat) (v lo hi : Int) :
    GB w (((w.alloc (.cells #[.slice aL n cL, .slice aV m cV] 25)).alloc (.cells #[.int .i64 v, .int .i64 lo, .int .i64 hi] 29)).alloc (.cells #[.int .i64 0, .int .i64 0, .int .i64 0] 29)) aL aV n m cL cV v lo hi := by
  obtain ⟨W1, hW1⟩ : ∃ W1, ((w.alloc (.cells #[.slice aL n cL, .slice aV m cV] 25)).alloc (.cells #[.int .i64 v, .int .i64 lo, .int .i64 hi] 29)).alloc (.cells #[.int .i64 0, .int .i64 0, .int .i64 0] 29) = W1 := ⟨_, rfl⟩
  obtain ⟨y0, y1, y2, y3, _, _⟩ := five_blocks w (.cells #[.slice aL n cL, .slice aV m cV] 25) (.cells #[.int .i64 v, .int .i64 lo, .int .i64 hi] 29) (.cells #[.int .i64 0, .int .i64 0, .int .i64 0] 29) (.cells #[] 3) (.cells #[] 3)
  have hz : W1.heap.size = w.heap.size + 3 := by rw [← hW1]; simp
  have back : ∀ k, k < w.heap.size + 3 → ((W1.alloc (.cells #[] 3)).alloc (.cells #[] 3)).heap[k]? = W1.heap[k]? := fun k hk => (Below.heap_alloc _ _ _ (by simp; omega)).trans (Below.heap_alloc _ _ _ (by omega))
  rw [hW1] at y1 y2 y3 ⊢
  exact ⟨(back _ (by omega)).symm.trans y1, (back _ (by omega)).symm.trans y2, (back _ (by omega)).symm.trans y3, by omega, by rw [← hW1]; exact ((below_alloc _ _).alloc (by simp) _).alloc (by simp; omega) _⟩

section
variable (aL aV aM : Option Addr) (m cL cV k cM : Nat) (c : Crv) (p : Pot3) (M : Nat → Int) (w : World)

end

end Go.Proofs.Yticgkhoidgkejaa
