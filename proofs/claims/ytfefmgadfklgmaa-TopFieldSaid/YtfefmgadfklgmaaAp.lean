/- A law for regions that draw their order: operations one after the other, and a variable's memory that may be made anywhere between them: the operations are walked once. No conditions beyond each theorem's own. -/
import Derived.Test.YtfefmgadfklgmaaAo
set_option linter.unusedVariables false
set_option linter.unusedSimpArgs false
set_option linter.unusedSectionVars false
set_option linter.constructorNameAsVariable false
namespace Go
open Go.RowKit

section
variable {P : Program} {md : Region.Mode} {D : World → Prop} {Q : Exit → Act → World → Prop}

theorem put_same {a : Act} {d : Nat} {u : Value} (h : a.tmps[d]? = some u) : a.put (some d) u = a := by
  cases a with
  | mk t ds =>
    have e : t.setIfInBounds d u = t := by
      apply Array.ext_getElem?
      intro i
      rw [Array.getElem?_setIfInBounds]
      split
      · rename_i hi; subst hi
        split
        · exact h.symm
        · rename_i hs
          have h : t[d]? = some u := h
          rw [Array.getElem?_eq_none (by omega)] at h; cases h
      · rfl
    show (⟨t.setIfInBounds d u, ds⟩ : Act) = ⟨t, ds⟩
    rw [e]

/-- the operations ss, one after the other: behind each one slot d may hold anything, the world may have grown -/
def wpChain (P : Program) (l : List Oper) (D : World → Prop) (Q : Exit → Act → World → Prop) (d g : Nat) (ob : Obj) (n0 : Nat) (p1 p2 : Plan) : List Nat → Value → Act → World → Prop
  | [], u, a, w => wpPlan P l D Q p1 a w ∧ ∀ B, u = .pointer (some ⟨B, 0, none⟩) → w.heap[B]? = some ob → n0 ≤ B → wpPlan P l D Q p2 a w
  | i :: ss, u, a, w => wpList P l.toArray (contQ Q fun a2 w2 => a2.tmps[d]? = some u ∧ w.grownBy w2 (some g) ∧ ∀ u3 w3, Below w2.heap.size w2 w3 → D w3 ∧ wpChain P l D Q d g ob n0 p1 p2 ss u3 (a2.put (some d) u3) w3) (pickL l [i]) a w
theorem wpChain_cons {l : List Oper} {d g : Nat} {ob : Obj} {n0 : Nat} {p1 p2 : Plan} {i : Nat} {ss : List Nat} {u : Value} {a : Act} {w : World}
    (h : wpList P l.toArray (contQ Q fun a2 w2 => a2.tmps[d]? = some u ∧ w.grownBy w2 (some g) ∧ ∀ u3 w3, Below w2.heap.size w2 w3 → D w3 ∧ wpChain P l D Q d g ob n0 p1 p2 ss u3 (a2.put (some d) u3) w3) (pickL l [i]) a w) : wpChain P l D Q d g ob n0 p1 p2 (i :: ss) u a w := h
theorem wpChain_nil {l : List Oper} {d g : Nat} {ob : Obj} {n0 : Nat} {p1 p2 : Plan} {u : Value} {a : Act} {w : World}
    (h1 : wpPlan P l D Q p1 a w) (h2 : ∀ B, u = .pointer (some ⟨B, 0, none⟩) → w.heap[B]? = some ob → n0 ≤ B → wpPlan P l D Q p2 a w) : wpChain P l D Q d g ob n0 p1 p2 [] u a w := ⟨h1, h2⟩

def chainB (md : Region.Mode) (ops : Array Oper) (n f : Nat) (p1 p2 : Plan) : List Nat → Array Bool → Bool
  | [], L => p1.okB md ops L && p2.okB md ops (L.setIfInBounds f true) && p1.inB n && p2.inB n
  | i :: ss, L => (decide (Region.ready md ops L = [i, f]) || decide (Region.ready md ops L = [f, i])) && decide (Region.ready md ops (L.setIfInBounds f true) = [i]) && !(i == f) && Nat.blt i n && chainB md ops n f p1 p2 ss (L.setIfInBounds i true)

theorem chain_done {l : List Oper} (hs : Region.noSelect l.toArray = true) {f d g n0 B : Nat} {ob : Obj} {p1 p2 : Plan} (hg : g < n0) (hB : n0 ≤ B) : ∀ (ss : List Nat) (L : Array Bool) (a : Act) (w : World),
    chainB md l.toArray l.length f p1 p2 ss L = true → ClosedL md l.toArray (L.setIfInBounds f true) → a.tmps[d]? = some (.pointer (some ⟨B, 0, none⟩)) → w.heap[B]? = some ob → D w →
    wpChain P l D Q d g ob n0 p1 p2 ss (.pointer (some ⟨B, 0, none⟩)) a w → wpAnyM P md l.toArray D [] (noPanic Q) (ss.length + p2.len) (L.setIfInBounds f true) a w
  | [], L, a, w, hc, hcl, hu, hb, hD, h => by
    simp only [chainB, Bool.and_eq_true] at hc
    rw [List.length_nil, Nat.zero_add]
    exact wpAnyM_plan hs p2 _ a w hc.2 hcl hc.1.1.2 hD (h.2 B rfl hb hB)
  | i :: ss, L, a, w, hc, hcl, hu, hb, hD, h => by
    simp only [chainB, Bool.and_eq_true, decide_eq_true_eq, Bool.not_eq_true', beq_eq_false_iff_ne] at hc
    obtain ⟨⟨⟨⟨_, hr⟩, hne⟩, hi⟩, hc'⟩ := hc
    have hi : i < l.length := by simpa using hi
    have e : l[i]? = some l[i] := List.getElem?_eq_getElem hi
    have h' : wpList P l.toArray (contQ Q fun a2 w2 => a2.tmps[d]? = some (.pointer (some ⟨B, 0, none⟩)) ∧ w.grownBy w2 (some g) ∧ ∀ u3 w3, Below w2.heap.size w2 w3 → D w3 ∧ wpChain P l D Q d g ob n0 p1 p2 ss u3 (a2.put (some d) u3) w3) (pickL l [i]) a w := h
    simp only [pickL, e] at h'
    have hm := wpOp_post (Q := Q) (show l.toArray[i]? = some l[i] by simp) h'
    rw [show (i :: ss).length + p2.len = (ss.length + p2.len) + 1 by simp; omega]
    refine ⟨fun h1 => (by rw [hr] at h1; cases h1), fun j hj => ?_⟩
    rw [hr] at hj
    obtain rfl : j = i := by simpa using hj
    refine wpOp_mono (fun a2 w2 ⟨hu2, hg2, H2⟩ => ⟨fun _ => (H2 (.pointer (some ⟨B, 0, none⟩)) w2 (Below.refl _ _)).1, ?_⟩) hm
    have hk := (H2 (.pointer (some ⟨B, 0, none⟩)) w2 (Below.refl _ _))
    rw [put_same hu2] at hk
    rw [Array.setIfInBounds_comm _ _ (Ne.symm hne)]
    exact chain_done hs hg hB ss (L.setIfInBounds j true) a2 w2 hc' (by rw [Array.setIfInBounds_comm _ _ hne]; exact hcl.set (by rw [hr]; simp)) hu2 ((hg2.block B (Array.getElem?_eq_some_iff.1 hb).1 (by simp; omega)).trans hb) hk.1 hk.2

theorem wpOp_alloc {l : List Oper} {f d : Nat} {T ty : TypeId} {ps : String} {af : Array Edge} {old : Array Value} {n : Nat} {K : Act → World → Prop} {Q' : Exit → Act → World → Prop} {a : Act} {w : World}
    (hf : l[f]? = some ⟨some d, .alloc T, ty, ps, af, none⟩) (hz : (P.info? T).map (fun i => (i.zero, i.size)) = some (some (.agg old), n)) (hs : old.size = n)
    (h : K (a.put (some d) (.pointer (some ⟨w.heap.size, 0, none⟩))) (w.alloc (.cells old T))) : wpOp P l.toArray Q' f K a w := by
  have hf' : l.toArray[f]? = some ⟨some d, .alloc T, ty, ps, af, none⟩ := by simpa using hf
  unfold wpOp
  simp only [hf']
  rw [if_pos (by simp [Region.wanted])]
  refine .inl ?_
  have hrun : (execOp a.eval ⟨some d, .alloc T, ty, ps, af, none⟩).run P w = .ok (.value (.pointer (some ⟨w.heap.size, 0, none⟩))) (w.alloc (.cells old T)) := by
    simp only [execOp]
    rw [Sem.run_bind]
    simp [alloc_row hz hs w, Result.andThen]
  simp only [Oper.wp, hrun, Oper.upon]
  exact h

theorem chain_open {l : List Oper} (hs : Region.noSelect l.toArray = true) {f d g n0 : Nat} {p1 p2 : Plan} {T ty : TypeId} {ps : String} {af : Array Edge} {old : Array Value} {n : Nat}
    (hf : l[f]? = some ⟨some d, .alloc T, ty, ps, af, none⟩) (hz : (P.info? T).map (fun i => (i.zero, i.size)) = some (some (.agg old), n)) (hso : old.size = n) (hlen : p1.len = p2.len + 1) (hg : g < n0) : ∀ (ss : List Nat) (L : Array Bool) (a : Act) (w : World) (u : Value),
    chainB md l.toArray l.length f p1 p2 ss L = true → ClosedL md l.toArray L → a.tmps[d]? = some u → n0 ≤ w.heap.size →
    (∀ u3 w3, Below w.heap.size w w3 → D w3 ∧ wpChain P l D Q d g (.cells old T) n0 p1 p2 ss u3 (a.put (some d) u3) w3) → wpAnyM P md l.toArray D [] (noPanic Q) (ss.length + p1.len) L a w
  | [], L, a, w, u, hc, hcl, hu, hn, H => by
    simp only [chainB, Bool.and_eq_true] at hc
    have hk := H u w (Below.refl _ _)
    rw [put_same hu] at hk
    rw [List.length_nil, Nat.zero_add]
    exact wpAnyM_plan hs p1 _ a w hc.1.2 hcl hc.1.1.1 hk.1 hk.2.1
  | i :: ss, L, a, w, u, hc, hcl, hu, hn, H => by
    have hc0 := hc
    simp only [chainB, Bool.and_eq_true, Bool.or_eq_true, decide_eq_true_eq, Bool.not_eq_true', beq_eq_false_iff_ne] at hc
    obtain ⟨⟨⟨⟨hr, _⟩, hne⟩, hi⟩, hc'⟩ := hc
    have hi : i < l.length := by simpa using hi
    have e : l[i]? = some l[i] := List.getElem?_eq_getElem hi
    have hri : i ∈ Region.ready md l.toArray L := by rcases hr with h | h <;> rw [h] <;> simp
    have hrf : f ∈ Region.ready md l.toArray L := by rcases hr with h | h <;> rw [h] <;> simp
    rw [show (i :: ss).length + p1.len = (ss.length + p1.len) + 1 by simp; omega]
    refine ⟨fun h1 => (by rw [h1] at hri; cases hri), fun j hj => ?_⟩
    have hj2 : j = i ∨ j = f := by rcases hr with h | h <;> (rw [h] at hj; simp at hj; omega)
    rcases hj2 with rfl | rfl
    · have hk := (H u w (Below.refl _ _)).2
      rw [put_same hu] at hk
      have h' : wpList P l.toArray (contQ Q fun a2 w2 => a2.tmps[d]? = some u ∧ w.grownBy w2 (some g) ∧ ∀ u3 w3, Below w2.heap.size w2 w3 → D w3 ∧ wpChain P l D Q d g (.cells old T) n0 p1 p2 ss u3 (a2.put (some d) u3) w3) (pickL l [j]) a w := hk
      simp only [pickL, e] at h'
      have hm := wpOp_post (Q := Q) (show l.toArray[j]? = some l[j] by simp) h'
      exact wpOp_mono (fun a2 w2 ⟨hu2, hg2, H2⟩ => ⟨fun _ => (H2 u w2 (Below.refl _ _)).1, chain_open hs hf hz hso hlen hg ss (L.setIfInBounds j true) a2 w2 u hc' (hcl.set hri) hu2 (Nat.le_trans hn hg2.size) H2⟩) hm
    · have hk := H (.pointer (some ⟨w.heap.size, 0, none⟩)) (w.alloc (.cells old T)) ((Below.refl _ _).alloc (Nat.le_refl _) _)
      refine wpOp_alloc hf hz hso ⟨fun _ => hk.1, ?_⟩
      rw [show ss.length + p1.len = (i :: ss).length + p2.len by simp; omega]
      have hlt : d < a.tmps.size := (Array.getElem?_eq_some_iff.1 hu).1
      exact chain_done hs hg hn (i :: ss) L _ _ hc0 (hcl.set hrf) (by rw [put_get, if_pos rfl, if_pos hlt]) (World.alloc_heap_new w _) hk.1 hk.2

/-- **A region that draws its order**: still operations, then ss one after the other and the alloc f anywhere between them, then what the plans say. -/
theorem wp_region_chain {id : Nat} {a : Act} {w : World} {l : List Oper} (D : World → Prop) (is ss : List Nat) (f d g n0 : Nat) (p1 p2 : Plan) {T ty : TypeId} {ps : String} {af : Array Edge} {old : Array Value} {n : Nat}
    (hm : P.follows .mixedOrders = true) (hf : l[f]? = some ⟨some d, .alloc T, ty, ps, af, none⟩) (hz : (P.info? T).map (fun i => (i.zero, i.size)) = some (some (.agg old), n)) (hso : old.size = n) (hg : g < n0) (hn : n0 ≤ w.heap.size)
    (hB : (Region.noSelect l.toArray && inSegB l.length is && decide (is.length + (ss.length + p1.len) = l.length) && decide (p1.len = p2.len + 1) && Region.stillOrd .any l.toArray [] is (Array.replicate l.length false) && chainB .any l.toArray l.length f p1 p2 ss (listAll is (Array.replicate l.length false))) = true)
    (h : ∀ w', (∃ x, w' = gw w x) → D w' ∧ wpQuiet P l.toArray D (fun a' => ∃ u0, a'.tmps[d]? = some u0 ∧ ∀ u w3, Below w'.heap.size w' w3 → D w3 ∧ wpChain P l D Q d g (.cells old T) n0 p1 p2 ss u (a'.put (some d) u) w3) (pickL l is) a) : (Code.region id l.toArray true).wp P Q a w := by
  simp only [Bool.and_eq_true, decide_eq_true_eq] at hB
  obtain ⟨⟨⟨⟨⟨hs, hin⟩, hlen⟩, hpl⟩, hst⟩, hc⟩ := hB
  refine Code.wp_mono (Q := noPanic Q) (fun e a w hq => by cases e <;> first | exact hq | exact False.elim hq) ?_
  refine wp_region_any hm ?_
  obtain ⟨hD, h2⟩ := h { w with drawn := w.drawn + 1 } ⟨⟨#[], w.drawn + 1⟩, by simp [gw]⟩
  have hcl : ClosedL .any l.toArray (Array.replicate l.length false) := ⟨by simp, fun j oj _ hl => (by rw [getD_replicate_false] at hl; cases hl)⟩
  have q1 := pickL_map (l := l) is hin
  have hcl2 := closed_still is _ hcl hst
  have H := wpAnyM_still (md := .any) (T := []) (g := ss.length + p1.len) hs (fun c a w h => h) _ hD is _ _ a q1 hcl hst
    (wpQuiet_mono (fun a' ⟨u0, hu0, h'⟩ => chain_open hs hf hz hso hpl hg ss _ a' _ u0 hc hcl2 hu0 hn h') _ _ h2)
  rw [hlen] at H
  have := wpAny_of_M _ _ _ _ H
  simpa using this
end
end Go
