/- A law for regions that draw their order and make three variables of one type. No conditions beyond each theorem's own. -/
import Derived.Test.YtjgnafhbeekebaaGreatAb
set_option linter.unusedVariables false
set_option linter.unusedSimpArgs false
set_option linter.unusedSectionVars false
set_option linter.constructorNameAsVariable false
namespace Go
open Go.RowKit
section
variable {P : Program}
theorem wp_region_box3 {id : Nat} {Q : Exit → Act → World → Prop} {a0 : Act} {W : World} {l : List Oper} (m : List Bool) (i1 s1 i2 s2 i3 s3 : Nat) {d1 v1 d2 v2 d3 v3 : Tmp} {T : TypeId} {n : Nat} (old c1 c2 c3 : Array Value)
    (hm : P.follows .mixedOrders = true) (hlen : m.length = l.length)
    (hal : ∀ x ∈ [(i1, d1), (i2, d2), (i3, d3)], ∃ o, l.toArray[x.1]? = some o ∧ o.dst = some x.2 ∧ o.op = .alloc T ∧ o.guard = none)
    (hst : ∀ x ∈ [(s1, d1, v1), (s2, d2, v2), (s3, d3, v3)], ∃ o, l.toArray[x.1]? = some o ∧ o.dst = none ∧ o.op = .store T (.tmp x.2.1) (.tmp x.2.2) ∧ o.guard = none)
    (hB : Region.boxB .any l.toArray (idxM m 0) [(i1, s1, d1), (i2, s2, d2), (i3, s3, d3)] = true) (hne : (d1 != d2 && d1 != d3 && d2 != d3 && v1 != d1 && v2 != d2 && v3 != d3) = true) (hd : (decide (d1 < a0.tmps.size) && decide (d2 < a0.tmps.size) && decide (d3 < a0.tmps.size)) = true)
    (hz : (P.info? T).map (fun i => (i.zero, i.size)) = some (some (.agg old), n)) (hs : old.size = n) (hs1 : c1.size = n) (hs2 : c2.size = n) (hs3 : c3.size = n) (o1 : c1.all (·.oneCell') = true) (o2 : c2.all (·.oneCell') = true) (o3 : c3.all (·.oneCell') = true)
    (h : ∃ aH, (∀ S : World → Prop, StableW S → (∃ x, S (gw W x)) → wpQuiet P l.toArray (fun w' => ∃ x : GrewS W S, w' = gw W x.g) (fun a' => a' = aH) (pickM m l) a0) ∧
      aH.eval (.tmp v1) = .agg c1 ∧ aH.eval (.tmp v2) = .agg c2 ∧ aH.eval (.tmp v3) = .agg c3 ∧
      ∀ B1 B2 B3 w', W.heap.size ≤ B1 → W.heap.size ≤ B2 → W.heap.size ≤ B3 → w'.heap[B1]? = some (.cells c1 T (0, 0)) → w'.heap[B2]? = some (.cells c2 T (0, 0)) → w'.heap[B3]? = some (.cells c3 T (0, 0)) → Below W.heap.size W w' →
        Q .normal (((aH.put (some d1) (.pointer (some ⟨B1, 0, none⟩))).put (some d2) (.pointer (some ⟨B2, 0, none⟩))).put (some d3) (.pointer (some ⟨B3, 0, none⟩))) w') :
    (Code.region id l.toArray true).wp P Q a0 W := by
  obtain ⟨aH, hw, e1, e2, e3, hQ⟩ := h
  simp only [Bool.and_eq_true, bne_iff_ne, decide_eq_true_eq] at hne hd
  obtain ⟨⟨⟨⟨⟨n12, n13⟩, n23⟩, w1⟩, w2⟩, w3⟩ := hne
  obtain ⟨⟨q1, q2⟩, q3⟩ := hd
  have xd : ∀ {v d : Tmp}, v ≠ d → Operand.tmp v ≠ .tmp d := fun h e => h (by cases e; rfl)
  have three : ∀ {b x y z : BoxD}, b ∈ [x, y, z] → b = x ∨ b = y ∨ b = z := fun h => by simpa using h
  have := wp_region_boxes (P := P) (id := id) (Q := Q) (a0 := a0) (aH := aH) (W := W) (x0 := ⟨#[], W.drawn⟩) (l := l) m [⟨i1, s1, d1, T, .tmp v1, .cells old T (0, 0), .cells c1 T (0, 0)⟩, ⟨i2, s2, d2, T, .tmp v2, .cells old T (0, 0), .cells c2 T (0, 0)⟩, ⟨i3, s3, d3, T, .tmp v3, .cells old T (0, 0), .cells c3 T (0, 0)⟩] hm hlen hB
    (fun b hb => by
      rcases three hb with rfl | rfl | rfl
      · exact hal (i1, d1) (by simp)
      · exact hal (i2, d2) (by simp)
      · exact hal (i3, d3) (by simp))
    (fun b hb => by
      rcases three hb with rfl | rfl | rfl
      · exact hst (s1, d1, v1) (by simp)
      · exact hst (s2, d2, v2) (by simp)
      · exact hst (s3, d3, v3) (by simp))
    (fun b hb => by
      rcases three hb with rfl | rfl | rfl
      · exact ⟨xd w1, q1⟩
      · exact ⟨xd w2, q2⟩
      · exact ⟨xd w3, q3⟩)
    (fun b hb w => by
      rcases three hb with rfl | rfl | rfl
      · exact alloc_row hz hs w
      · exact alloc_row hz hs w
      · exact alloc_row hz hs w) hw
    (fun b hb w B hB => by
      rcases three hb with rfl | rfl | rfl
      · simp only at hB ⊢
        rw [e1]
        exact puts_row (by rw [(zero_of_info hz).2, hs1]) (hs.trans hs1.symm) o1 w B hB
      · simp only at hB ⊢
        rw [e2]
        exact puts_row (by rw [(zero_of_info hz).2, hs2]) (hs.trans hs2.symm) o2 w B hB
      · simp only at hB ⊢
        rw [e3]
        exact puts_row (by rw [(zero_of_info hz).2, hs3]) (hs.trans hs3.symm) o3 w B hB)
    (fun β w' hb h1 h2 => by
      have k1 := h1 _ (List.mem_cons_self)
      have k2 := h1 _ (List.mem_cons_of_mem _ (List.mem_cons_self))
      have k3 := h1 _ (List.mem_cons_of_mem _ (List.mem_cons_of_mem _ (List.mem_singleton_self _)))
      exact hQ (β d1) (β d2) (β d3) w' k1.1 k2.1 k3.1 k1.2 k2.2 k3.2 hb)
  rwa [gw_self] at this
end
end Go
