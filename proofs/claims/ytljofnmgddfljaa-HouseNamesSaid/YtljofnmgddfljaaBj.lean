/- Contracts of days, errorOf. No conditions beyond each theorem's own. -/
import Derived.Test.YtljofnmgddfljaaBi
import Derived.Laws.EntriesVeiled
set_option linter.unusedVariables false
set_option linter.unusedSimpArgs false
set_option linter.unusedSectionVars false
set_option linter.constructorNameAsVariable false
namespace Go.Proofs.Ytljofnmgddfljaa
open Go.RowKit

attribute [local go_sem] gw_cell gw_frozen gw_size

theorem alloc_keep {w : World} {o q : Obj} {k : Nat} (h : w.heap[k]? = some q) : (w.alloc o).heap[k]? = some q := ((below_alloc w o).block k (Array.getElem?_eq_some_iff.1 h).1).trans h
theorem alloc_at {w : World} {o : Obj} {k : Nat} (h : w.heap.size = k) : (w.alloc o).heap[k]? = some o := by subst h; exact World.alloc_heap_new w o
theorem four_blocks (w : World) (o1 o2 o3 o4 : Obj) : ((((w.alloc o1).alloc o2).alloc o3).alloc o4).heap.size = w.heap.size + 4 ∧
    ((((w.alloc o1).alloc o2).alloc o3).alloc o4).heap[w.heap.size]? = some o1 ∧ ((((w.alloc o1).alloc o2).alloc o3).alloc o4).heap[w.heap.size + 1]? = some o2 ∧
    ((((w.alloc o1).alloc o2).alloc o3).alloc o4).heap[w.heap.size + 2]? = some o3 ∧ ((((w.alloc o1).alloc o2).alloc o3).alloc o4).heap[w.heap.size + 3]? = some o4 ∧ Below w.heap.size w ((((w.alloc o1).alloc o2).alloc o3).alloc o4) :=
  ⟨by simp, alloc_keep (alloc_keep (alloc_keep (alloc_at rfl))), alloc_keep (alloc_keep (alloc_at (by simp))), alloc_keep (alloc_at (by simp)), alloc_at (by simp), (((below_alloc _ _).alloc (by simp) _).alloc (by simp; omega) _).alloc (by simp; omega) _⟩

set_option maxRecDepth 100000 in
set_option maxHeartbeats 2000000 in
theorem days_any (C : Clim) (bc : Nat) (x : Cont) (aS : Option Addr) (k cS : Nat) (tu : Int) (w : World) (hC : C.At w bc) (hB : climB C = true) :
    Calls Try.prog 49 #[.pointer (some ⟨bc, 0, none⟩), x.val, .slice aS k cS, .int .i64 tu] w fun e w' =>
      ∃ cur B bx bto ball bfl bcp bs, e = .returned (.func (.func 78) #[] #[.pointer (some ⟨bx, 0, none⟩), .pointer (some ⟨bto, 0, none⟩), .pointer (some ⟨ball, 0, none⟩), .pointer (some ⟨bfl, 0, none⟩), .pointer (some ⟨bcp, 0, none⟩)]) ∧
        Held (daysHeld C cur bc B bx bto ball bfl bcp bs x tu aS k cS) w' ∧ Filled C cur (fun _ _ => True) ∧ Below w.heap.size w w' ∧ ∀ p ∈ daysHeld C cur bc B bx bto ball bfl bcp bs x tu aS k cS, p.1 = bc ∨ w.heap.size ≤ p.1 := by
  have hmf : ∀ (fn : Fn) (first cap : Array Value) (w : World), (Instr.makeFunc fn first cap).run Try.prog w = .ok (.func fn first cap) w := fun _ _ _ _ => rfl
  have lt := hC.lt
  have HC := Lib.hid hC; clear hC
  unfold Cont.val
  go_enter Try.func49, Try.ntmps49
  obtain ⟨z0, z1, z2, z3, z4, z5⟩ := four_blocks w (.cells #[.pointer (some ⟨bc, 0, none⟩)] 93) (.cells #[.int .i64 x.day, .int .i64 x.alo, .int .i64 x.ahi, .int .i64 x.wlo, .int .i64 x.whi] 28) (.cells #[.slice aS k cS] 29) (.cells #[.int .i64 tu] 3)
  obtain ⟨W1, hW1⟩ : ∃ W1, (((w.alloc (.cells #[.pointer (some ⟨bc, 0, none⟩)] 93)).alloc (.cells #[.int .i64 x.day, .int .i64 x.alo, .int .i64 x.ahi, .int .i64 x.wlo, .int .i64 x.whi] 28)).alloc (.cells #[.slice aS k cS] 29)).alloc (.cells #[.int .i64 tu] 3) = W1 := ⟨_, rfl⟩
  rw [hW1] at z0 z1 z2 z3 z4 z5
  have c0 : W1.cell? ⟨w.heap.size, 0, none⟩ = some (.pointer (some ⟨bc, 0, none⟩)) := cell_of_block z1 0 (by simp)
  have Y := Lib.hid (years_any C bc W1 (HC.out.below z5) hB)
  have Z := Lib.hid (And.intro z0 (And.intro z1 (And.intro z2 (And.intro z3 (And.intro z4 z5))))); clear z0 z1 z2 z3 z4 z5
  go_wp2_with fail
  refine Y.out.mono ?_
  rintro e w2 ⟨B, rfl, hBl, ⟨cur, hcu, hfi⟩, hb2⟩
  obtain ⟨z0, z1, z2, z3, z4, z5⟩ := Z.out
  have y1 := (hb2.block _ (by omega)).trans z1
  have y2 := (hb2.block _ (by omega)).trans z2
  have y3 := (hb2.block _ (by omega)).trans z3
  have y4 := (hb2.block _ (by omega)).trans z4
  have hcl := (z5.trans (hb2.mono z5.size)).block bc lt |>.trans HC.out.blk
  have hlow := z5.trans (hb2.mono z5.size)
  have YY := Lib.hid (And.intro y1 (And.intro y2 (And.intro y3 (And.intro y4 (And.intro hcl (And.intro hcu (And.intro hlow hb2.size)))))))
  clear y1 y2 y3 y4 hcl hcu hlow hb2 z0 z1 z2 z3 z4 z5 c0 hW1
  go_wp2_with fail
  go_ret
  obtain ⟨y1, y2, y3, y4, hcl, hcu, hlow, hsz⟩ := YY.out
  obtain ⟨z0, -⟩ := Z.out
  refine ⟨cur, B, w.heap.size + 1, w.heap.size + 1 + 1 + 1, w2.heap.size, w2.heap.size + 1, w.heap.size, w.heap.size + 1 + 1, rfl, ?_, hfi, (hlow.alloc hlow.size _).alloc (by have := hlow.size; simp; omega) _, ?_⟩
  · have A : ∀ {k : Nat} {q : Obj} {o o' : Obj}, w2.heap[k]? = some q → ((w2.alloc o).alloc o').heap[k]? = some q := fun h => alloc_keep (alloc_keep h)
    intro p hp
    simp only [daysHeld, List.mem_cons, List.not_mem_nil, or_false] at hp
    rcases hp with rfl | rfl | rfl | rfl | rfl | rfl | rfl | rfl
    · exact A hcl
    · exact A hcu
    · exact A y2
    · exact A y4
    · exact alloc_keep (alloc_at rfl)
    · exact alloc_at (by simp)
    · exact A y1
    · exact A y3
  · intro p hp
    simp only [daysHeld, List.mem_cons, List.not_mem_nil, or_false] at hp
    rcases hp with rfl | rfl | rfl | rfl | rfl | rfl | rfl | rfl
    · exact .inl rfl
    all_goals exact .inr (by dsimp only; omega)
end Go.Proofs.Ytljofnmgddfljaa
