/- Plain words: a round of Run has ended. No conditions. -/
import Derived.Test.YtnmldophadanbaaKj
import Derived.Test.YtnmldophadanbaaKk
import Derived.Test.YtnmldophadanbaaWk
set_option linter.unusedVariables false
set_option linter.unusedSimpArgs false
set_option linter.unusedSectionVars false
set_option linter.constructorNameAsVariable false
namespace Go.Proofs.Ytnmldophadanbaa
open Go.RowKit

theorem round_done {c : Crv} {p : Pot3} {M : Nat → Int} {w : World} {cb ab pb : Array Value} {S D : Nat} {rec : Loop} {j : Nat} {W Wb w3 : World} {vl : Value} {tmp : Obj} {g' cap' b bv bm : Nat} {v lo hi : Int}
    (hS : w.heap.size + 5 ≤ S) (hD : S + 3 ≤ D) (h : Between c p M w cb ab pb S D rec j W) (hSt : StillBox W S v lo hi w.heap.size)
    (hrow : W.ownsRow w.heap.size 41 3 vl j (c.outs p M j)) (hg1 : W.grownBy Wb (some (D + 1))) {r' : Loop} (hlb : Wb.heap[D + 1]? = some (.loop r'))
    (hgrow : (Wb.alloc tmp).grownBy w3 vl.ownBlock) (hv1 : Boxed w3 (w.heap.size + 2) 33 vl)
    (hown : w3.ownsRow w.heap.size 41 3 (.slice (some ⟨g', 0, none⟩) (j + 1) cap') (j + 1) (c.outs p M j ++ [.int .i64 (c.outAt p M j).d, .int .i64 (c.outAt p M j).lo, .int .i64 (c.outAt p M j).hi]))
    (hb : b < w.heap.size) (hbv : bv < w.heap.size) (hbm : bm < w.heap.size) :
    (w3.setCell ⟨w.heap.size + 2, 0, none⟩ (.slice (some ⟨g', 0, none⟩) (j + 1) cap')).heap[D + 1]? = some (.loop r') ∧ Between c p M w cb ab pb S D rec (j + 1) ((w3.setCell ⟨w.heap.size + 2, 0, none⟩ (.slice (some ⟨g', 0, none⟩) (j + 1) cap')).putObj (D + 1) (.loop rec)) ∧
    Kept S (S + 1 + 1) (S + 1) w.heap.size b bv bm W ((w3.setCell ⟨w.heap.size + 2, 0, none⟩ (.slice (some ⟨g', 0, none⟩) (j + 1) cap')).putObj (D + 1) (.loop rec)) := by
  have hz : W.heap.size ≤ w3.heap.size := by have := hg1.size; have := hgrow.size; simp at this; omega
  have hDl := (Array.getElem?_eq_some_iff.1 h.loop).1
  obtain ⟨W4, hW4⟩ : ∃ W4, w3.setCell ⟨w.heap.size + 2, 0, none⟩ (.slice (some ⟨g', 0, none⟩) (j + 1) cap') = W4 := ⟨_, rfl⟩
  have hz4 : w3.heap.size ≤ W4.heap.size := by rw [← hW4]; exact (KeepsWalks.setCell w3 _ _).size
  have chain : ∀ B, B < W.heap.size → B ≠ D + 1 → B ≠ w.heap.size + 2 → some B ≠ vl.ownBlock → (W4.putObj (D + 1) (.loop rec)).heap[B]? = W.heap[B]? := fun B h1 h2 h3 h4 => by
    rw [World.putObj_heap_other h2, ← hW4, Below.heap_setCell _ _ _ _ h3, hgrow.block B (by have := hg1.size; simp; omega) h4, Below.heap_alloc _ _ _ (by have := hg1.size; omega)]
    exact hg1.block B h1 (by simpa using h2)
  have far : ∀ (B : Nat) (o : Obj), W.heap[B]? = some o → (∀ cur, o ≠ .cells cur 41 (0, 0)) → B ≠ D + 1 → B ≠ w.heap.size + 2 → (W4.putObj (D + 1) (.loop rec)).heap[B]? = some o := fun B o ho hne h2 h3 =>
    (chain B (Array.getElem?_eq_some_iff.1 ho).1 h2 h3 (far_row hrow ho hne)).trans ho
  have cellsNe : ∀ (cs : Array Value) (t : TypeId), t ≠ 41 → ∀ cur, Obj.cells cs t (0, 0) ≠ .cells cur 41 (0, 0) := fun cs t ht cur e => by cases e; exact ht rfl
  have hv2 : Boxed W4 (w.heap.size + 2) 33 (.slice (some ⟨g', 0, none⟩) (j + 1) cap') := by rw [← hW4]; exact hv1.set _
  have hown4 : W4.ownsRow w.heap.size 41 3 (.slice (some ⟨g', 0, none⟩) (j + 1) cap') (j + 1) (c.outs p M (j + 1)) := by
    rw [← hW4, c.outs_succ]
    exact hown.kept (grownBy_setCell' w3 (w.heap.size + 2) _) (.inr (hv1.not_row (by decide) hown).symm)
  have hl4 : W4.heap[D + 1]? = some (.loop r') := by
    rw [← hW4, Below.heap_setCell _ _ _ _ (by simp; omega), hgrow.block (D + 1) (by have := hg1.size; simp; omega) (far_row hrow h.loop (fun _ e => by cases e)), Below.heap_alloc _ _ _ (by have := hg1.size; omega)]
    exact hlb
  have hown5 := ownsRow_putObj hown4 (.loop rec) hl4 rfl
  have hD1 := (Array.getElem?_eq_some_iff.1 hl4).1
  have hnS : (Value.slice (some ⟨g', 0, none⟩) (j + 1) cap').ownBlock ≠ some S := by
    have := far S _ hSt (cellsNe _ _ (by decide)) (by omega) (by omega)
    exact (far_row hown5 this (cellsNe _ _ (by decide))).symm
  have hlow : Below w.heap.size w (W4.putObj (D + 1) (.loop rec)) := by
    have l0 := h.low
    have l1 : Below w.heap.size W (W4.putObj (D + 1) (.loop rec)) := by
      refine ⟨?_, ?_, ?_, ?_, fun k hk => chain k (Nat.lt_of_lt_of_le hk l0.size) (by omega) (by omega) (row_low hrow hk)⟩
      · have e1 := hg1.os; have e2 := hgrow.os; rw [← hW4]; exact e2.trans e1
      · have e1 := hg1.tape; have e2 := hgrow.tape; rw [← hW4]; exact e2.trans e1
      · have e1 := hg1.output; have e2 := hgrow.output; rw [← hW4]; exact e2.trans e1
      · simp; omega
    exact l0.trans l1
  rw [hW4]
  refine ⟨hl4, ⟨⟨_, (World.putObj_heap_other (by omega)).trans hv2, hown5, hnS⟩, far _ _ h.err (cellsNe _ _ (by decide)) (by omega) (by omega), far _ _ h.fin (cellsNe _ _ (by decide)) (by omega) (by omega), far _ _ h.cur (cellsNe _ _ (by decide)) (by omega) (by omega),
    far _ _ h.amt (cellsNe _ _ (by decide)) (by omega) (by omega), far _ _ h.ptr (cellsNe _ _ (by decide)) (by omega) (by omega), World.putObj_heap_same hD1, far _ _ h.dfr (fun _ e => by cases e) (by omega) (by omega), hlow⟩, ?_⟩
  have z := h.low.size
  have same : ∀ (B : Nat) (o : Obj), W.heap[B]? = some o → (∀ cur, o ≠ .cells cur 41 (0, 0)) → B ≠ D + 1 → B ≠ w.heap.size + 2 → (W4.putObj (D + 1) (.loop rec)).heap[B]? = W.heap[B]? := fun B o ho hne h2 h3 => (far B o ho hne h2 h3).trans ho.symm
  exact ⟨by simp; omega, same _ _ hSt (cellsNe _ _ (by decide)) (by omega) (by omega), same _ _ h.amt (cellsNe _ _ (by decide)) (by omega) (by omega), same _ _ h.ptr (cellsNe _ _ (by decide)) (by omega) (by omega), same _ _ h.cur (cellsNe _ _ (by decide)) (by omega) (by omega),
    chain b (by omega) (by omega) (by omega) (row_low hrow hb), chain bv (by omega) (by omega) (by omega) (row_low hrow hbv), chain bm (by omega) (by omega) (by omega) (row_low hrow hbm)⟩
end Go.Proofs.Ytnmldophadanbaa
