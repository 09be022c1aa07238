/- Small laws on blocks: what is made stands there; all cells of a block are set. No conditions beyond each theorem's own. -/
import Derived.Test.YtjgnafhbeekebaaGreatAw
import Derived.Laws.EntriesVeiled
import Derived.Deep.DeepCutAuto
import Derived.Deep.RegionHeld3
set_option linter.unusedVariables false
set_option linter.unusedSimpArgs false
set_option linter.unusedSectionVars false
set_option linter.constructorNameAsVariable false
namespace Go.Proofs.YtjgnafhbeekebaaGreat
open Go.RowKit

theorem alloc_keep {w : World} {o q : Obj} {k : Nat} (h : w.heap[k]? = some q) : (w.alloc o).heap[k]? = some q := ((below_alloc w o).block k (Array.getElem?_eq_some_iff.1 h).1).trans h
theorem alloc_at {w : World} {o : Obj} {k : Nat} (h : w.heap.size = k) : (w.alloc o).heap[k]? = some o := by subst h; exact World.alloc_heap_new w o
theorem box_cell {W : World} {b : Nat} {v : Value} {t : TypeId} (h : W.heap[b]? = some (.cells #[v] t (0, 0))) : W.cell? ⟨b, 0, none⟩ = some v := cell_of_block h 0 (by simp)
theorem ints_one {W : World} {b : Nat} {d : Int} (hb : b < W.heap.size) (h : W.cell? ⟨b, 0, none⟩ = some (.int .i64 d)) : IntsAt W (some ⟨b, 0, none⟩) 1 (fun _ => d) :=
  .inr ⟨b, 0, rfl, hb, fun i hi => by
    obtain rfl : i = 0 := by omega
    exact h⟩
theorem spans_one {W : World} {b : Nat} {x y : Int} (hb : b < W.heap.size) (h0 : W.cell? ⟨b, 0, none⟩ = some (.int .i64 x)) (h1 : W.cell? ⟨b, 1, none⟩ = some (.int .i64 y)) : SpansAt W (some ⟨b, 0, none⟩) 1 (fun _ => x) (fun _ => y) :=
  .inr ⟨b, 0, rfl, hb, fun i hi => by
    obtain rfl : i = 0 := by omega
    exact ⟨h0, h1⟩⟩
theorem news_lit (w : World) (xs : List Value) (t : TypeId) : ∀ (i : Nat) (u : Value), xs[i]? = some u → (w.alloc (.cells xs.toArray t)).cell? ((⟨w.heap.size, 0, none⟩ : Addr).add i) = some u := by
  intro i u h
  have hb := World.alloc_heap_new w (.cells xs.toArray t)
  have hi := (List.getElem?_eq_some_iff.1 h).1
  rw [addr_add, Nat.zero_add]
  exact (cell_of_block hb i (by simpa using hi)).trans (by rw [← h]; simp [hi])
theorem grownBy_later {w w' : World} {row : Option Nat} (h : w.grownBy w' row) (k : Nat) (u : Value) : w.grownBy (w'.setCell ⟨w.heap.size, k, none⟩ u) row :=
  ⟨h.os, h.tape, h.output, Nat.le_trans h.size (KeepsWalks.setCell w' _ u).size, fun j hj hr => (Below.heap_setCell w' ⟨w.heap.size, k, none⟩ u j (Nat.ne_of_lt hj)).trans (h.block j hj hr)⟩

/-- the cells from k on are set -/
def setAll (W : World) (b : Nat) : Nat → List Value → World
  | _, [] => W
  | k, v :: vs => setAll (W.setCell ⟨b, k, none⟩ v) b (k + 1) vs
theorem setAll_block {b : Nat} {t : TypeId} : ∀ (vs : List Value) (k : Nat) (W : World) (c : Array Value), k + vs.length = c.size → W.heap[b]? = some (.cells c t (0, 0)) → (setAll W b k vs).heap[b]? = some (.cells (c.toList.take k ++ vs).toArray t (0, 0))
  | [], k, W, c, hs, h => by
    have : c.toList.take k = c.toList := List.take_of_length_le (by simp at hs ⊢; omega)
    simp only [setAll, List.append_nil, this]
    exact h
  | v :: vs, k, W, c, hs, h => by
    have hk : k < c.size := by simp at hs; omega
    have e := setAll_block vs (k + 1) _ _ (by simp at hs ⊢; omega) (block_set k v h)
    have e2 : (c.setIfInBounds k v).toList.take (k + 1) = c.toList.take k ++ [v] := by
      rw [Array.toList_setIfInBounds]
      have hk' : k < c.toList.length := by simpa using hk
      rw [List.take_add_one, List.take_set_of_le (Nat.le_refl k), List.getElem?_set_self hk']
      rfl
    rw [e2, List.append_assoc] at e
    exact e
theorem set_all {W : World} {b : Nat} {c : Array Value} {t : TypeId} (vs : List Value) (h : W.heap[b]? = some (.cells c t (0, 0))) (hs : vs.length = c.size) : (setAll W b 0 vs).heap[b]? = some (.cells vs.toArray t (0, 0)) := by
  have := setAll_block vs 0 W c (by omega) h
  simpa using this
theorem setAll_grown (b : Nat) : ∀ (vs : List Value) (k : Nat) (W : World), W.grownBy (setAll W b k vs) (some b)
  | [], _, W => ⟨rfl, rfl, rfl, Nat.le_refl _, fun _ _ _ => rfl⟩
  | v :: vs, k, W => grownBy_trans (grownBy_set W b k v) (setAll_grown b vs (k + 1) _)
theorem setAll_below {n b : Nat} {w W : World} (h : Below n w W) (hn : n ≤ W.heap.size) (hb : n ≤ b) (vs : List Value) (k : Nat) : Below n w (setAll W b k vs) :=
  h.grown (setAll_grown b vs k W) hn (fun g hg => by cases hg; exact hb)
end Go.Proofs.YtjgnafhbeekebaaGreat
