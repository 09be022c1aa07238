/- A law for regions that draw their order and end in two stores into variables that lay there before, next to operations that leave what there was as it was. No conditions beyond each theorem's own. -/
import Derived.Test.YtfefmgadfklgmaaAh
set_option linter.unusedVariables false
set_option linter.unusedSimpArgs false
set_option linter.unusedSectionVars false
set_option linter.constructorNameAsVariable false
namespace Go
open Go.RowKit
section
variable {P : Program}

structure Put2 (W : World) (B1 B2 : Nat) (o1 o2 : Obj) (w' : World) : Prop where
  b1 : w'.heap[B1]? = some o1
  b2 : w'.heap[B2]? = some o2
  far : ∀ k o, k ≠ B1 → k ≠ B2 → W.heap[k]? = some o → w'.heap[k]? = some o
  size : W.heap.size ≤ w'.heap.size
  os : w'.os = W.os
  tape : w'.tape = W.tape
  output : w'.output = W.output
theorem Put2.below {w W w' : World} {B1 B2 n : Nat} {o1 o2 : Obj} (h : Put2 W B1 B2 o1 o2 w') (hb : Below n w W) (hw : n ≤ w.heap.size) (h1 : n ≤ B1) (h2 : n ≤ B2) : Below n w w' := by
  refine ⟨h.os.trans hb.os, h.tape.trans hb.tape, h.output.trans hb.output, Nat.le_trans hb.size h.size, fun k hk => ?_⟩
  have e := hb.block k hk
  have hk2 : k < W.heap.size := Nat.lt_of_lt_of_le (Nat.lt_of_lt_of_le hk hw) hb.size
  rw [← e, Array.getElem?_eq_getElem hk2]
  exact h.far k _ (by omega) (by omega) (Array.getElem?_eq_getElem hk2)

theorem wp_region_put2 {id : Nat} {Q : Exit → Act → World → Prop} {a0 : Act} {W : World} {l : List Oper} (m : List Bool) (p q : PutD)
    (hm : P.follows .mixedOrders = true) (hlen : m.length = l.length) (hB : Region.putsB .any l.toArray (idxM m 0) [] [p.i, q.i] = true)
    (hpo : ∀ s, l.toArray[p.i]? = some s → s.op = .store p.T (.tmp p.dt) (.tmp p.v)) (hqo : ∀ s, l.toArray[q.i]? = some s → s.op = .store q.T (.tmp q.dt) (.tmp q.v)) (hne : p.B ≠ q.B)
    (hold1 : W.heap[p.B]? = some (.cells p.old p.T (0, 0))) (hold2 : W.heap[q.B]? = some (.cells q.old q.T (0, 0)))
    (hi1 : (P.info? p.T).map (·.size) = some p.cs.size) (hi2 : (P.info? q.T).map (·.size) = some q.cs.size) (hs1 : p.old.size = p.cs.size) (hs2 : q.old.size = q.cs.size) (ho1 : p.cs.all (·.oneCell') = true) (ho2 : q.cs.all (·.oneCell') = true)
    (h : ∃ aH, (∀ Wx, (∀ k o, k ≠ p.B → k ≠ q.B → W.heap[k]? = some o → Wx.heap[k]? = some o) → Wx.heap.size = W.heap.size → ∀ S : World → Prop, StableW S → Nonempty (GrewS Wx S) → wpQuiet P l.toArray (fun w' => ∃ x : GrewS Wx S, w' = gw Wx x.g) (fun a' => a' = aH) (pickM m l) a0) ∧
      (aH.eval (.tmp p.dt) = .pointer (some ⟨p.B, 0, none⟩) ∧ aH.eval (.tmp p.v) = .agg p.cs) ∧ (aH.eval (.tmp q.dt) = .pointer (some ⟨q.B, 0, none⟩) ∧ aH.eval (.tmp q.v) = .agg q.cs) ∧
      ∀ w', Put2 W p.B q.B (.cells p.cs p.T (0, 0)) (.cells q.cs q.T (0, 0)) w' → Q .normal aH w') :
    (Code.region id l.toArray true).wp P Q a0 W := by
  obtain ⟨aH, hw, hp, hq, hQ⟩ := h
  have two : ∀ {r : PutD}, r ∈ [p, q] → r = p ∨ r = q := fun h => by simpa using h
  have far : ∀ Wx, PutNear W [p, q] Wx → ∀ k o, k ≠ p.B → k ≠ q.B → W.heap[k]? = some o → Wx.heap[k]? = some o := fun Wx hN k o h1 h2 h3 => (hN.far k (fun r hr => by rcases two hr with rfl | rfl <;> exact fun e => (by first | exact h1 e.symm | exact h2 e.symm))).trans h3
  refine wp_region_puts m [] [p, q] hm hlen hB (by rfl) (by simp) (by simp) ?_ ?_ ?_ ?_ ?_ ?_ ⟨aH, ?_, ?_, by simp, ?_⟩
  · intro r hr s hs
    rcases two hr with rfl | rfl
    · exact hpo s hs
    · exact hqo s hs
  · intro r hr s hs e
    rcases two hr with rfl | rfl <;> rcases two hs with rfl | rfl <;> first | rfl | exact absurd e hne | exact absurd e.symm hne
  · intro r hr
    rcases two hr with rfl | rfl
    · exact hold1
    · exact hold2
  · intro r hr
    rcases two hr with rfl | rfl
    · exact hi1
    · exact hi2
  · intro r hr
    rcases two hr with rfl | rfl
    · exact hs1
    · exact hs2
  · intro r hr
    rcases two hr with rfl | rfl
    · exact ho1
    · exact ho2
  · intro Wx hN S hS hx
    obtain ⟨x0, hx0⟩ := hx
    exact hw Wx (far Wx hN) hN.size S hS ⟨⟨x0, hx0⟩⟩
  · intro r hr
    rcases two hr with rfl | rfl
    · exact hp
    · exact hq
  · intro β w' Wx hN hown hb _
    have l1 : p.B < W.heap.size := (Array.getElem?_eq_some_iff.1 hold1).1
    have l2 : q.B < W.heap.size := (Array.getElem?_eq_some_iff.1 hold2).1
    refine hQ w' ⟨(hb.block _ l1).trans (hown p (by simp)), (hb.block _ l2).trans (hown q (by simp)), fun k o h1 h2 h3 => ?_, ?_, hb.os.trans hN.os, hb.tape.trans hN.tape, hb.output.trans hN.output⟩
    · exact (hb.block k (Array.getElem?_eq_some_iff.1 h3).1).trans (far Wx hN k o h1 h2 h3)
    · have := hb.size; rw [hN.size] at this; exact this
end
end Go
