/- Plain words: blocks that were laid one after another; cells of a block that is known whole. No conditions. -/
import Derived.Test.YtnmldophadanbaaKf
set_option linter.unusedVariables false
set_option linter.unusedSimpArgs false
set_option linter.unusedSectionVars false
set_option linter.constructorNameAsVariable false
namespace Go.Proofs.Ytnmldophadanbaa
open Go.RowKit

theorem five_blocks (w : World) (o1 o2 o3 o4 o5 : Obj) :
    (((((w.alloc o1).alloc o2).alloc o3).alloc o4).alloc o5).heap.size = w.heap.size + 5 ∧
    (((((w.alloc o1).alloc o2).alloc o3).alloc o4).alloc o5).heap[w.heap.size]? = some o1 ∧
    (((((w.alloc o1).alloc o2).alloc o3).alloc o4).alloc o5).heap[w.heap.size + 1]? = some o2 ∧
    (((((w.alloc o1).alloc o2).alloc o3).alloc o4).alloc o5).heap[w.heap.size + 2]? = some o3 ∧
    (((((w.alloc o1).alloc o2).alloc o3).alloc o4).alloc o5).heap[w.heap.size + 3]? = some o4 ∧
    (((((w.alloc o1).alloc o2).alloc o3).alloc o4).alloc o5).heap[w.heap.size + 4]? = some o5 := by
  have e : (((((w.alloc o1).alloc o2).alloc o3).alloc o4).alloc o5).heap = ((((w.heap.push o1).push o2).push o3).push o4).push o5 := rfl
  rw [e]
  have pn : ∀ (h : Array Obj) (o : Obj) (k : Nat), k ≠ h.size → (h.push o)[k]? = h[k]? := fun h o k hk => by rw [Array.getElem?_push, if_neg hk]
  have pe : ∀ (h : Array Obj) (o : Obj) (k : Nat), k = h.size → (h.push o)[k]? = some o := fun h o k hk => by rw [Array.getElem?_push, if_pos hk]
  have s1 : (w.heap.push o1).size = w.heap.size + 1 := by simp
  have s2 : ((w.heap.push o1).push o2).size = w.heap.size + 2 := by simp
  have s3 : (((w.heap.push o1).push o2).push o3).size = w.heap.size + 3 := by simp
  have s4 : ((((w.heap.push o1).push o2).push o3).push o4).size = w.heap.size + 4 := by simp
  refine ⟨by simp, ?_, ?_, ?_, ?_, ?_⟩
  · rw [pn _ _ _ (by omega), pn _ _ _ (by omega), pn _ _ _ (by omega), pn _ _ _ (by omega), pe _ _ _ rfl]
  · rw [pn _ _ _ (by omega), pn _ _ _ (by omega), pn _ _ _ (by omega), pe _ _ _ (by omega)]
  · rw [pn _ _ _ (by omega), pn _ _ _ (by omega), pe _ _ _ (by omega)]
  · rw [pn _ _ _ (by omega), pe _ _ _ (by omega)]
  · rw [pe _ _ _ (by omega)]

theorem cell_of_block {w : World} {b : Nat} {c : Array Value} {t : TypeId} (h : w.heap[b]? = some (.cells c t (0, 0))) (k : Nat) (hk : k < c.size) : w.cell? ⟨b, k, none⟩ = some c[k] := by
  simp [World.cell?, h, hk]
theorem frozen_of_block {w : World} {b : Nat} {c : Array Value} {t : TypeId} (h : w.heap[b]? = some (.cells c t (0, 0))) (k : Nat) : w.frozen? ⟨b, k, none⟩ = false := by
  simp [World.frozen?, h]
end Go.Proofs.Ytnmldophadanbaa
