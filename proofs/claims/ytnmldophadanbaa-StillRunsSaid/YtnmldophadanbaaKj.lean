/- Plain words: what stands between two rounds of a run. No conditions. -/
import Derived.Test.YtnmldophadanbaaKh
import Derived.Test.YtnmldophadanbaaKi
import Derived.RangeFuncNested
set_option linter.unusedVariables false
set_option linter.unusedSimpArgs false
set_option linter.unusedSectionVars false
set_option linter.constructorNameAsVariable false
namespace Go.Proofs.Ytnmldophadanbaa
open Go.RowKit

/-- a row's block is no block of another make -/
theorem far_row {W : World} {base size k : Nat} {e : TypeId} {v : Value} {xs : List Value} (hr : W.ownsRow base e size v k xs) {B : Nat} {o : Obj} (h : W.heap[B]? = some o) (ho : ∀ cur, o ≠ .cells cur e (0, 0)) : some B ≠ v.ownBlock := by
  rcases hr.2 with ⟨rfl, _⟩ | ⟨g, cap, cur, rfl, _, hgb, _⟩
  · simp [Value.ownBlock]
  · intro e'
    obtain rfl : B = g := by simpa [Value.ownBlock] using e'
    exact ho cur (Option.some.inj (h.symm.trans hgb))
theorem row_low {W : World} {base size k : Nat} {e : TypeId} {v : Value} {xs : List Value} (hr : W.ownsRow base e size v k xs) {B : Nat} (h : B < base) : some B ≠ v.ownBlock := by
  rcases hr.2 with ⟨rfl, _⟩ | ⟨g, cap, cur, rfl, hg, _, _⟩
  · simp [Value.ownBlock]
  · intro e'
    obtain rfl : B = g := by simpa [Value.ownBlock] using e'
    omega

def Dr3.cells (x : Dr3) : List Value := [.int .i64 x.d, .int .i64 x.lo, .int .i64 x.hi]
def Crv.outs (c : Crv) (p : Pot3) (M : Nat → Int) (j : Nat) : List Value := (List.range j).flatMap fun i => (c.outAt p M i).cells
theorem Crv.outs_succ (c : Crv) (p : Pot3) (M : Nat → Int) (j : Nat) : c.outs p M (j + 1) = c.outs p M j ++ (c.outAt p M j).cells := by
  simp [Crv.outs, List.range_succ]
theorem Crv.outs_length (c : Crv) (p : Pot3) (M : Nat → Int) : ∀ j, (c.outs p M j).length = j * 3
  | 0 => rfl
  | j + 1 => by rw [c.outs_succ, List.length_append, c.outs_length p M j]; simp [Dr3.cells]; omega

/-- between two rounds: N: the heap's size when the call began; S: the still's block; D: the block for deferred calls -/
structure Between (c : Crv) (p : Pot3) (M : Nat → Int) (w : World) (cb ab pb : Array Value) (S D : Nat) (rec : Loop) (j : Nat) (W : World) : Prop where
  row : ∃ vl, Boxed W (w.heap.size + 2) 33 vl ∧ W.ownsRow w.heap.size 41 3 vl j (c.outs p M j) ∧ vl.ownBlock ≠ some S
  err : Boxed W (w.heap.size + 4) 34 (.int .i64 0)
  fin : W.heap[w.heap.size + 3]? = some (.cells #[.int .i64 0, .int .i64 0, .int .i64 0] 29 (0, 0))
  cur : W.heap[w.heap.size]? = some (.cells cb 25 (0, 0))
  amt : W.heap[S + 2]? = some (.cells ab 22 (0, 0))
  ptr : W.heap[S + 1]? = some (.cells pb 100 (0, 0))
  loop : W.heap[D + 1]? = some (.loop rec)
  dfr : W.heap[D]? = some (.deferred (some []))
  low : Below w.heap.size w W

theorem Between.kept {c : Crv} {p : Pot3} {M : Nat → Int} {w : World} {cb ab pb : Array Value} {S D : Nat} {rec : Loop} {j : Nat} {W W' : World} (hS : w.heap.size + 5 ≤ S) (hD : S + 3 ≤ D)
    (h : Between c p M w cb ab pb S D rec j W) (hg : W.grownBy W' (some S)) : Between c p M w cb ab pb S D rec j W' := by
  have same : ∀ (B : Nat) (o : Obj), B ≠ S → W.heap[B]? = some o → W'.heap[B]? = some o := fun B o hB ho => (hg.block B (Array.getElem?_eq_some_iff.1 ho).1 (by simpa using hB)).trans ho
  obtain ⟨vl, hb, hr, hn⟩ := h.row
  exact ⟨⟨vl, hb.kept hg (by simp; omega), hr.kept hg (.inr hn), hn⟩, h.err.kept hg (by simp; omega), same _ _ (by omega) h.fin, same _ _ (by omega) h.cur, same _ _ (by omega) h.amt, same _ _ (by omega) h.ptr,
    same _ _ (by omega) h.loop, same _ _ (by omega) h.dfr, h.low.grown hg h.low.size (fun k e => by cases e; omega)⟩
end Go.Proofs.Ytnmldophadanbaa
