/- What the walk of the reference's Run needs. No conditions beyond each theorem's own. -/
import Derived.Test.YticgkhoidgkejaaNi
import Derived.Test.YticgkhoidgkejaaGh
set_option linter.unusedVariables false
set_option linter.unusedSimpArgs false
set_option linter.unusedSectionVars false
set_option linter.constructorNameAsVariable false
namespace Go.Proofs.Yticgkhoidgkejaa
open Go.RowKit

/-- what Draw returned, in two boxes -/
structure Out4 (X : Dr3) (Y : Pot3) (e : Int) (W : World) (s1 s2 s3 : Value) (wx : World) : Prop where
  v : s3 = .int .i64 e
  box : ∃ B1 B2, s1 = .pointer (some ⟨B1, 0, none⟩) ∧ s2 = .pointer (some ⟨B2, 0, none⟩) ∧ wx.heap[B1]? = some (.cells #[.int .i64 X.d, .int .i64 X.lo, .int .i64 X.hi] 36 (0, 0)) ∧ wx.heap[B2]? = some (.cells #[.int .i64 Y.v, .int .i64 Y.lo, .int .i64 Y.hi] 29 (0, 0)) ∧ W.heap.size ≤ B1 ∧ W.heap.size ≤ B2
  low : Below W.heap.size W wx
section
variable {X : Dr3} {Y : Pot3} {e : Int} {V w1 : World} (hb : Below V.heap.size V w1) {a0 a1 a2 b0 b1 b2 : Value}
include hb
variable (X Y e) in
theorem out4_A : Out4 X Y e V (.pointer (some ⟨w1.heap.size, 0, none⟩)) (.pointer (some ⟨w1.heap.size + 1, 0, none⟩)) (.int .i64 e) ((w1.alloc (.cells #[.int .i64 X.d, .int .i64 X.lo, .int .i64 X.hi] 36)).alloc (.cells #[.int .i64 Y.v, .int .i64 Y.lo, .int .i64 Y.hi] 29)) :=
  ⟨rfl, ⟨_, _, rfl, rfl, (Below.heap_alloc _ _ _ (by simp)).trans (World.alloc_heap_new w1 _), by have := World.alloc_heap_new (w1.alloc (.cells #[.int .i64 X.d, .int .i64 X.lo, .int .i64 X.hi] 36)) (.cells #[.int .i64 Y.v, .int .i64 Y.lo, .int .i64 Y.hi] 29); rwa [World.size_alloc] at this, hb.size, by have := hb.size; omega⟩, (hb.alloc hb.size _).alloc (by have := hb.size; simp; omega) _⟩
variable (X Y e) in
theorem out4_B : Out4 X Y e V (.pointer (some ⟨w1.heap.size + 1, 0, none⟩)) (.pointer (some ⟨w1.heap.size, 0, none⟩)) (.int .i64 e) ((w1.alloc (.cells #[.int .i64 Y.v, .int .i64 Y.lo, .int .i64 Y.hi] 29)).alloc (.cells #[.int .i64 X.d, .int .i64 X.lo, .int .i64 X.hi] 36)) :=
  ⟨rfl, ⟨_, _, rfl, rfl, by have := World.alloc_heap_new (w1.alloc (.cells #[.int .i64 Y.v, .int .i64 Y.lo, .int .i64 Y.hi] 29)) (.cells #[.int .i64 X.d, .int .i64 X.lo, .int .i64 X.hi] 36); rwa [World.size_alloc] at this, (Below.heap_alloc _ _ _ (by simp)).trans (World.alloc_heap_new w1 _), by have := hb.size; omega, hb.size⟩, (hb.alloc hb.size _).alloc (by have := hb.size; simp; omega) _⟩
variable (X Y e) in
theorem out4_C (k0 : w1.heap[V.heap.size]? = some (.cells #[a0, a1, a2] 36 (0, 0))) : Out4 X Y e V (.pointer (some ⟨V.heap.size, 0, none⟩)) (.pointer (some ⟨w1.heap.size, 0, none⟩)) (.int .i64 e) ((((w1.setCell ⟨V.heap.size, 0, none⟩ (.int .i64 X.d)).setCell ⟨V.heap.size, 1, none⟩ (.int .i64 X.lo)).setCell ⟨V.heap.size, 2, none⟩ (.int .i64 X.hi)).alloc (.cells #[.int .i64 Y.v, .int .i64 Y.lo, .int .i64 Y.hi] 29)) :=
  ⟨rfl, ⟨_, _, rfl, rfl, (Below.heap_alloc _ _ _ (by simpa using (Array.getElem?_eq_some_iff.1 k0).1)).trans (block_set3 k0 _ _ _), by have := World.alloc_heap_new (((w1.setCell ⟨V.heap.size, 0, none⟩ (.int .i64 X.d)).setCell ⟨V.heap.size, 1, none⟩ (.int .i64 X.lo)).setCell ⟨V.heap.size, 2, none⟩ (.int .i64 X.hi)) (.cells #[.int .i64 Y.v, .int .i64 Y.lo, .int .i64 Y.hi] 29); simpa using this, Nat.le_refl _, hb.size⟩, (below_set3 hb (Nat.le_refl _) _ _ _).alloc (by simpa using hb.size) _⟩
variable (X Y e) in
theorem out4_D (k0 : w1.heap[V.heap.size]? = some (.cells #[a0, a1, a2] 36 (0, 0))) (k1 : w1.heap[V.heap.size + 1]? = some (.cells #[b0, b1, b2] 29 (0, 0))) :
    Out4 X Y e V (.pointer (some ⟨V.heap.size, 0, none⟩)) (.pointer (some ⟨V.heap.size + 1, 0, none⟩)) (.int .i64 e) ((((((w1.setCell ⟨V.heap.size, 0, none⟩ (.int .i64 X.d)).setCell ⟨V.heap.size, 1, none⟩ (.int .i64 X.lo)).setCell ⟨V.heap.size, 2, none⟩ (.int .i64 X.hi)).setCell ⟨V.heap.size + 1, 0, none⟩ (.int .i64 Y.v)).setCell ⟨V.heap.size + 1, 1, none⟩ (.int .i64 Y.lo)).setCell ⟨V.heap.size + 1, 2, none⟩ (.int .i64 Y.hi)) :=
  ⟨rfl, ⟨_, _, rfl, rfl, (set3_other (by omega) _ _ _).trans (block_set3 k0 _ _ _), block_set3 ((set3_other (by omega) _ _ _).trans k1) _ _ _, Nat.le_refl _, Nat.le_succ _⟩, below_set3 (below_set3 hb (Nat.le_refl _) _ _ _) (Nat.le_succ _) _ _ _⟩
variable (X Y e) in
theorem out4_E (k0 : w1.heap[V.heap.size]? = some (.cells #[a0, a1, a2] 29 (0, 0))) : Out4 X Y e V (.pointer (some ⟨w1.heap.size, 0, none⟩)) (.pointer (some ⟨V.heap.size, 0, none⟩)) (.int .i64 e) ((((w1.setCell ⟨V.heap.size, 0, none⟩ (.int .i64 Y.v)).setCell ⟨V.heap.size, 1, none⟩ (.int .i64 Y.lo)).setCell ⟨V.heap.size, 2, none⟩ (.int .i64 Y.hi)).alloc (.cells #[.int .i64 X.d, .int .i64 X.lo, .int .i64 X.hi] 36)) :=
  ⟨rfl, ⟨_, _, rfl, rfl, by have := World.alloc_heap_new (((w1.setCell ⟨V.heap.size, 0, none⟩ (.int .i64 Y.v)).setCell ⟨V.heap.size, 1, none⟩ (.int .i64 Y.lo)).setCell ⟨V.heap.size, 2, none⟩ (.int .i64 Y.hi)) (.cells #[.int .i64 X.d, .int .i64 X.lo, .int .i64 X.hi] 36); simpa using this, (Below.heap_alloc _ _ _ (by simpa using (Array.getElem?_eq_some_iff.1 k0).1)).trans (block_set3 k0 _ _ _), hb.size, Nat.le_refl _⟩, (below_set3 hb (Nat.le_refl _) _ _ _).alloc (by simpa using hb.size) _⟩
variable (X Y e) in
theorem out4_F (k0 : w1.heap[V.heap.size]? = some (.cells #[a0, a1, a2] 29 (0, 0))) (k1 : w1.heap[V.heap.size + 1]? = some (.cells #[b0, b1, b2] 36 (0, 0))) :
    Out4 X Y e V (.pointer (some ⟨V.heap.size + 1, 0, none⟩)) (.pointer (some ⟨V.heap.size, 0, none⟩)) (.int .i64 e) ((((((w1.setCell ⟨V.heap.size + 1, 0, none⟩ (.int .i64 X.d)).setCell ⟨V.heap.size + 1, 1, none⟩ (.int .i64 X.lo)).setCell ⟨V.heap.size + 1, 2, none⟩ (.int .i64 X.hi)).setCell ⟨V.heap.size, 0, none⟩ (.int .i64 Y.v)).setCell ⟨V.heap.size, 1, none⟩ (.int .i64 Y.lo)).setCell ⟨V.heap.size, 2, none⟩ (.int .i64 Y.hi)) :=
  ⟨rfl, ⟨_, _, rfl, rfl, (set3_other (by omega) _ _ _).trans (block_set3 k1 _ _ _), block_set3 ((set3_other (by omega) _ _ _).trans k0) _ _ _, Nat.le_succ _, Nat.le_refl _⟩, below_set3 (below_set3 hb (Nat.le_succ _) _ _ _) (Nat.le_refl _) _ _ _⟩
end

/-- between two amounts of the reference's Run: P is the pot's block, R the result's -/
structure RunAt (c : Crv) (p : Pot3) (M : Nat → Int) (W0 : World) (P : Nat) (j : Nat) (v : Value) (wr : World) : Prop where
  row : wr.ownsRow W0.heap.size 36 3 v j (c.outs p M j)
  pot : wr.heap[P]? = some (.cells #[.int .i64 (c.potAt p M j).v, .int .i64 (c.potAt p M j).lo, .int .i64 (c.potAt p M j).hi] 29 (0, 0))
  grown : W0.grownBy wr (some P)

theorem RunAt.old {c : Crv} {p : Pot3} {M : Nat → Int} {W0 wr : World} {P j : Nat} {v : Value} (h : RunAt c p M W0 P j v wr) {b o : Nat} {x : Value} (hx : W0.cell? ⟨b, o, none⟩ = some x) (hP : b ≠ P) : wr.cell? ⟨b, o, none⟩ = some x :=
  h.grown.cell hx (by simpa using hP)

/-- behind the append -/
theorem runAt_next {c : Crv} {p : Pot3} {M : Nat → Int} {W0 wr wc w3 : World} {P j B2 : Nat} {v v' : Value} {o : Obj} (hP : P < W0.heap.size) (h : RunAt c p M W0 P j v wr) (hl : Below wr.heap.size wr wc) (hg : (wc.alloc o).grownBy w3 v.ownBlock)
    (hr : w3.ownsRow W0.heap.size 36 3 v' (j + 1) (c.outs p M (j + 1))) (hB : wr.heap.size ≤ B2) {y0 y1 y2 : Value} (hb : wc.heap[B2]? = some (.cells #[y0, y1, y2] 29 (0, 0))) :
    w3.heap[B2]? = some (.cells #[y0, y1, y2] 29 (0, 0)) ∧ w3.heap[P]? = some (.cells #[.int .i64 (c.potAt p M j).v, .int .i64 (c.potAt p M j).lo, .int .i64 (c.potAt p M j).hi] 29 (0, 0)) ∧ W0.grownBy w3 (some P) ∧ wr.heap.size ≤ w3.heap.size := by
  have z0 := h.grown.size
  have z1 := hl.size
  have z2 : wc.heap.size + 1 ≤ w3.heap.size := by have := hg.size; simpa using this
  have lt := h.row.lt
  have lB := (Array.getElem?_eq_some_iff.1 hb).1
  have ne : ∀ k, (k < W0.heap.size ∨ wr.heap.size ≤ k) → some k ≠ v.ownBlock := fun k hk e => by have := lt k e.symm; omega
  have back : ∀ k, k < wc.heap.size → (k < W0.heap.size ∨ wr.heap.size ≤ k) → w3.heap[k]? = wc.heap[k]? := fun k h1 h2 => (hg.block k (by simp; omega) (ne k h2)).trans (Below.heap_alloc _ _ _ h1)
  refine ⟨(back _ lB (.inr hB)).trans hb, (back _ (by omega) (.inl hP)).trans ((hl.block _ (by omega)).trans h.pot), ⟨?_, ?_, ?_, by omega, fun k hk hne => ?_⟩, by omega⟩
  · exact (hg.os.trans hl.os).trans h.grown.os
  · exact (hg.tape.trans hl.tape).trans h.grown.tape
  · exact (hg.output.trans hl.output).trans h.grown.output
  · exact ((back k (by omega) (.inl hk)).trans (hl.block k (by omega))).trans (h.grown.block k hk hne)
theorem runAt_set {c : Crv} {p : Pot3} {M : Nat → Int} {W0 w3 : World} {P j : Nat} {v' : Value} (hP : P < W0.heap.size) (hr : w3.ownsRow W0.heap.size 36 3 v' (j + 1) (c.outs p M (j + 1))) {z0 z1 z2 : Value} (hp : w3.heap[P]? = some (.cells #[z0, z1, z2] 29 (0, 0))) (hg : W0.grownBy w3 (some P))
    {Y : Pot3} (eY : Y = c.potAt p M (j + 1)) :
    RunAt c p M W0 P (j + 1) v' (((w3.setCell ⟨P, 0, none⟩ (.int .i64 Y.v)).setCell ⟨P, 1, none⟩ (.int .i64 Y.lo)).setCell ⟨P, 2, none⟩ (.int .i64 Y.hi)) := by
  subst eY
  exact ⟨row_set3 hr (fun h => by have := hr.lt _ h; omega) _ _ _, block_set3 hp _ _ _, grownBy_trans (grownBy_trans (grownBy_trans hg (grownBy_set _ P 0 _)) (grownBy_set _ P 1 _)) (grownBy_set _ P 2 _)⟩
theorem below_of_grown {w W0 wr : World} {P : Nat} (h1 : Below w.heap.size w W0) (h2 : W0.grownBy wr (some P)) (hP : w.heap.size ≤ P) : Below w.heap.size w wr :=
  h1.grown h2 h1.size (fun k hk => by cases hk; exact hP)
end Go.Proofs.Yticgkhoidgkejaa
