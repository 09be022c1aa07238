/- A law for regions that draw their order and end in three stores into variables that lay there before, next to operations that leave what there was as it was. No conditions beyond each theorem's own. -/
import Derived.Test.YtfefmgadfklgmaaAh
set_option linter.unusedVariables false
set_option linter.unusedSimpArgs false
set_option linter.unusedSectionVars false
set_option linter.constructorNameAsVariable false
namespace Go
open Go.RowKit
section
variable {P : Program}

structure Put3 (W : World) (B1 B2 B3 : Nat) (o1 o2 o3 : Obj) (w' : World) : Prop where
  b1 : w'.heap[B1]? = some o1
  b2 : w'.heap[B2]? = some o2
  b3 : w'.heap[B3]? = some o3
  far : ∀ k o, k ≠ B1 → k ≠ B2 → k ≠ B3 → W.heap[k]? = some o → w'.heap[k]? = some o
  size : W.heap.size ≤ w'.heap.size
  os : w'.os = W.os
  tape : w'.tape = W.tape
  output : w'.output = W.output
theorem Put3.below {w W w' : World} {B1 B2 B3 n : Nat} {o1 o2 o3 : Obj} (h : Put3 W B1 B2 B3 o1 o2 o3 w') (hb : Below n w W) (hw : n ≤ w.heap.size) (h1 : n ≤ B1) (h2 : n ≤ B2) (h3 : n ≤ B3) : Below n w w' := by
  refine ⟨h.os.trans hb.os, h.tape.trans hb.tape, h.output.trans hb.output, Nat.le_trans hb.size h.size, fun k hk => ?_⟩
  have e := hb.block k hk
  have hk2 : k < W.heap.size := Nat.lt_of_lt_of_le (Nat.lt_of_lt_of_le hk hw) hb.size
  rw [← e, Array.getElem?_eq_getElem hk2]
  exact h.far k _ (by omega) (by omega) (by omega) (Array.getElem?_eq_getElem hk2)

theorem wp_region_put3 {id : Nat} {Q : Exit → Act → World → Prop} {a0 : Act} {W : World} {l : List Oper} (m : List Bool) (p q r : PutD)
    (hm : P.follows .mixedOrders = true) (hlen : m.length = l.length) (hB : Region.putsB .any l.toArray (idxM m 0) [] [p.i, q.i, r.i] = true)
    (hpo : ∀ s, l.toArray[p.i]? = some s → s.op = .store p.T (.tmp p.dt) (.tmp p.v)) (hqo : ∀ s, l.toArray[q.i]? = some s → s.op = .store q.T (.tmp q.dt) (.tmp q.v)) (hro : ∀ s, l.toArray[r.i]? = some s → s.op = .store r.T (.tmp r.dt) (.tmp r.v))
    (n1 : p.B ≠ q.B) (n2 : p.B ≠ r.B) (n3 : q.B ≠ r.B)
    (hold1 : W.heap[p.B]? = some (.cells p.old p.T (0, 0))) (hold2 : W.heap[q.B]? = some (.cells q.old q.T (0, 0))) (hold3 : W.heap[r.B]? = some (.cells r.old r.T (0, 0)))
    (hi1 : (P.info? p.T).map (·.size) = some p.cs.size) (hi2 : (P.info? q.T).map (·.size) = some q.cs.size) (hi3 : (P.info? r.T).map (·.size) = some r.cs.size)
    (hs1 : p.old.size = p.cs.size) (hs2 : q.old.size = q.cs.size) (hs3 : r.old.size = r.cs.size) (ho1 : p.cs.all (·.oneCell') = true) (ho2 : q.cs.all (·.oneCell') = true) (ho3 : r.cs.all (·.oneCell') = true)
    (h : ∃ aH, (∀ Wx, (∀ k o, k ≠ p.B → k ≠ q.B → k ≠ r.B → W.heap[k]? = some o → Wx.heap[k]? = some o) → Wx.heap.size = W.heap.size → ∀ S : World → Prop, StableW S → Nonempty (GrewS Wx S) → wpQuiet P l.toArray (fun w' => ∃ x : GrewS Wx S, w' = gw Wx x.g) (fun a' => a' = aH) (pickM m l) a0) ∧
      (aH.eval (.tmp p.dt) = .pointer (some ⟨p.B, 0, none⟩) ∧ aH.eval (.tmp p.v) = .agg p.cs) ∧ (aH.eval (.tmp q.dt) = .pointer (some ⟨q.B, 0, none⟩) ∧ aH.eval (.tmp q.v) = .agg q.cs) ∧ (aH.eval (.tmp r.dt) = .pointer (some ⟨r.B, 0, none⟩) ∧ aH.eval (.tmp r.v) = .agg r.cs) ∧
      ∀ w', Put3 W p.B q.B r.B (.cells p.cs p.T (0, 0)) (.cells q.cs q.T (0, 0)) (.cells r.cs r.T (0, 0)) w' → Q .normal aH w') :
    (Code.region id l.toArray true).wp P Q a0 W := by
  obtain ⟨aH, hw, hp, hq, hr, hQ⟩ := h
  have three : ∀ {x : PutD}, x ∈ [p, q, r] → x = p ∨ x = q ∨ x = r := fun h => by simpa using h
  have far : ∀ Wx, PutNear W [p, q, r] Wx → ∀ k o, k ≠ p.B → k ≠ q.B → k ≠ r.B → W.heap[k]? = some o → Wx.heap[k]? = some o := fun Wx hN k o h1 h2 h3 h4 => (hN.far k (fun x hx => by rcases three hx with rfl | rfl | rfl <;> exact fun e => (by first | exact h1 e.symm | exact h2 e.symm | exact h3 e.symm))).trans h4
  refine wp_region_puts m [] [p, q, r] hm hlen hB (by rfl) (by simp) (by simp) ?_ ?_ ?_ ?_ ?_ ?_ ⟨aH, ?_, ?_, by simp, ?_⟩
  · intro x hx s hs
    rcases three hx with rfl | rfl | rfl
    · exact hpo s hs
    · exact hqo s hs
    · exact hro s hs
  · intro x hx y hy e
    rcases three hx with rfl | rfl | rfl <;> rcases three hy with rfl | rfl | rfl <;> first | rfl | exact absurd e n1 | exact absurd e.symm n1 | exact absurd e n2 | exact absurd e.symm n2 | exact absurd e n3 | exact absurd e.symm n3
  · intro x hx
    rcases three hx with rfl | rfl | rfl
    · exact hold1
    · exact hold2
    · exact hold3
  · intro x hx
    rcases three hx with rfl | rfl | rfl
    · exact hi1
    · exact hi2
    · exact hi3
  · intro x hx
    rcases three hx with rfl | rfl | rfl
    · exact hs1
    · exact hs2
    · exact hs3
  · intro x hx
    rcases three hx with rfl | rfl | rfl
    · exact ho1
    · exact ho2
    · exact ho3
  · intro Wx hN S hS hx
    obtain ⟨x0, hx0⟩ := hx
    exact hw Wx (far Wx hN) hN.size S hS ⟨⟨x0, hx0⟩⟩
  · intro x hx
    rcases three hx with rfl | rfl | rfl
    · exact hp
    · exact hq
    · exact hr
  · intro β w' Wx hN hown hb _
    have l1 : p.B < W.heap.size := (Array.getElem?_eq_some_iff.1 hold1).1
    have l2 : q.B < W.heap.size := (Array.getElem?_eq_some_iff.1 hold2).1
    have l3 : r.B < W.heap.size := (Array.getElem?_eq_some_iff.1 hold3).1
    refine hQ w' ⟨(hb.block _ l1).trans (hown p (by simp)), (hb.block _ l2).trans (hown q (by simp)), (hb.block _ l3).trans (hown r (by simp)), fun k o h1 h2 h3 h4 => ?_, ?_, hb.os.trans hN.os, hb.tape.trans hN.tape, hb.output.trans hN.output⟩
    · exact (hb.block k (Array.getElem?_eq_some_iff.1 h4).1).trans (far Wx hN k o h1 h2 h3 h4)
    · have := hb.size; rw [hN.size] at this; exact this
end
end Go
