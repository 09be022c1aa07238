/- StillLasts: the walk of the law. Contracts of long, the reference's Pot, a span within another one; lists of what is drawn in memory. Plain laws: narrower pots leave spans that are not wider. StillNarrower: the walk of the law where it is short: too long, or an error. StillNarrower: the walk of the law where the run goes through. Contracts of Plates and what it holds, Vapour, Check. Contracts of Plates, Vapour. No conditions beyond each theorem's own. -/
import Derived.Test.YthmnlakgcoojhaaGf
import Derived.Test.YthmnlakgcoojhaaFb
import Derived.Deep.QuietTactic
import Derived.BigQuiet
set_option linter.unusedVariables false
set_option linter.unusedSimpArgs false
set_option linter.unusedSectionVars false
set_option linter.constructorNameAsVariable false

namespace Go.Proofs.Ythmnlakgcoojhaa.L4
open Go.RowKit

attribute [local go_sem] gw_cell gw_frozen gw_size

theorem outs_get (c : Crv) (p : Pot3) (M : Nat → Int) : ∀ (k i : Nat), i < k → (c.outs p M k)[i * 3]? = some (.int .i64 (c.outAt p M i).d) ∧ (c.outs p M k)[i * 3 + 1]? = some (.int .i64 (c.outAt p M i).lo) ∧ (c.outs p M k)[i * 3 + 2]? = some (.int .i64 (c.outAt p M i).hi)
  | 0, i, h => by omega
  | k + 1, i, h => by
    rw [c.outs_succ]
    have hl := c.outs_length p M k
    by_cases hi : i < k
    · obtain ⟨h1, h2, h3⟩ := outs_get c p M k i hi
      exact ⟨by rw [List.getElem?_append_left (by omega)]; exact h1, by rw [List.getElem?_append_left (by omega)]; exact h2, by rw [List.getElem?_append_left (by omega)]; exact h3⟩
    · obtain rfl : i = k := by omega
      refine ⟨?_, ?_, ?_⟩
      · rw [List.getElem?_append_right (by omega), hl, Nat.sub_self]; rfl
      · rw [List.getElem?_append_right (by omega), hl, show i * 3 + 1 - i * 3 = 1 by omega]; rfl
      · rw [List.getElem?_append_right (by omega), hl, show i * 3 + 2 - i * 3 = 2 by omega]; rfl
end Go.Proofs.Ythmnlakgcoojhaa.L4

namespace Go.Proofs.Ythmnlakgcoojhaa.L4
open Go.RowKit

attribute [local go_sem] gw_cell gw_frozen gw_size

/-- a curve and a pot were boxed -/
structure NB (w W : World) (aL aV : Option Addr) (n m cL cV : Nat) (v lo hi : Int) : Prop where
  c0 : W.cell? ⟨w.heap.size, 0, none⟩ = some (.slice aL n cL)
  c1 : W.cell? ⟨w.heap.size, 1, none⟩ = some (.slice aV m cV)
  p0 : W.cell? ⟨w.heap.size + 1, 0, none⟩ = some (.int .i64 v)
  p1 : W.cell? ⟨w.heap.size + 1, 1, none⟩ = some (.int .i64 lo)
  p2 : W.cell? ⟨w.heap.size + 1, 2, none⟩ = some (.int .i64 hi)
  sz : w.heap.size + 2 ≤ W.heap.size
  low : Below w.heap.size w W
section
variable {w W W' : World} {aL aV : Option Addr} {n m cL cV : Nat} {v lo hi : Int}
theorem NB.s0 (h : NB w W aL aV n m cL cV v lo hi) : w.heap.size < W.heap.size := by have := h.sz; omega
theorem NB.s1 (h : NB w W aL aV n m cL cV v lo hi) : w.heap.size + 1 < W.heap.size := by have := h.sz; omega
theorem NB.below (h : NB w W aL aV n m cL cV v lo hi) (hb : Below W.heap.size W W') : NB w W' aL aV n m cL cV v lo hi :=
  ⟨(hb.cell (p := ⟨w.heap.size, 0, none⟩) h.s0).trans h.c0, (hb.cell (p := ⟨w.heap.size, 1, none⟩) h.s0).trans h.c1, (hb.cell (p := ⟨w.heap.size + 1, 0, none⟩) h.s1).trans h.p0, (hb.cell (p := ⟨w.heap.size + 1, 1, none⟩) h.s1).trans h.p1,
    (hb.cell (p := ⟨w.heap.size + 1, 2, none⟩) h.s1).trans h.p2, Nat.le_trans h.sz hb.size, thru hb h.low⟩
theorem NB.gw (h : NB w W aL aV n m cL cV v lo hi) (x : Grew) : NB w (Go.gw W x) aL aV n m cL cV v lo hi := h.below (below_gw W x)
theorem nb_of (w : World) (aL aV : Option Addr) (n m cL cV : Nat) (v lo hi : Int) (t t' : TypeId) : NB w ((w.alloc (.cells #[.slice aL n cL, .slice aV m cV] t)).alloc (.cells #[.int .i64 v, .int .i64 lo, .int .i64 hi] t')) aL aV n m cL cV v lo hi :=
  ⟨by simp [go_sem], by simp [go_sem], by simp [go_sem], by simp [go_sem], by simp [go_sem], by simp, ((Below.refl _ w).alloc (Nat.le_refl _) _).alloc (by simp) _⟩
end

end Go.Proofs.Ythmnlakgcoojhaa.L4

