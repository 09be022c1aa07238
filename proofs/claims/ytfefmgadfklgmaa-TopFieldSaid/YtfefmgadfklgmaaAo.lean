/- A law for regions that draw their order, with operations that come one after the other and one that may come anywhere between them (the variable's memory). No conditions beyond each theorem's own. -/
import Derived.Test.YtfefmgadfklgmaaAn
set_option linter.unusedVariables false
set_option linter.unusedSimpArgs false
set_option linter.unusedSectionVars false
set_option linter.constructorNameAsVariable false
namespace Go
open Go.RowKit

/-- still operations, then one that comes up alone, or one of two; at the end still ones -/
inductive Plan where
  | last (is : List Nat)
  | step (is : List Nat) (i : Nat) (p : Plan)
  | fork (is : List Nat) (i f : Nat) (p q : Plan)
def Plan.len : Plan → Nat
  | .last is => is.length
  | .step is _ p => is.length + (p.len + 1)
  | .fork is _ _ p _ => is.length + (p.len + 1)
def Plan.inB (n : Nat) : Plan → Bool
  | .last is => inSegB n is
  | .step is i p => inSegB n is && Nat.blt i n && p.inB n
  | .fork is i f p q => inSegB n is && Nat.blt i n && Nat.blt f n && p.inB n && q.inB n
def Plan.okB (md : Region.Mode) (ops : Array Oper) : Plan → Array Bool → Bool
  | .last is, listed => Region.stillOrd md ops [] is listed && Region.seqOrd md ops [] (listAll is listed)
  | .step is i p, listed => Region.stillOrd md ops [] is listed && decide (Region.ready md ops (listAll is listed) = [i]) && p.okB md ops ((listAll is listed).setIfInBounds i true)
  | .fork is i f p q, listed => Region.stillOrd md ops [] is listed && (decide (Region.ready md ops (listAll is listed) = [i, f]) || decide (Region.ready md ops (listAll is listed) = [f, i])) && decide (p.len = q.len) && p.okB md ops ((listAll is listed).setIfInBounds i true) && q.okB md ops ((listAll is listed).setIfInBounds f true)

section
variable {P : Program} {md : Region.Mode} {D : World → Prop} {Q : Exit → Act → World → Prop}

def wpPlan (P : Program) (l : List Oper) (D : World → Prop) (Q : Exit → Act → World → Prop) : Plan → Act → World → Prop
  | .last is, a, w => wpQuiet P l.toArray D (fun a' => wpList P l.toArray (noPanic Q) [] a' w) (pickL l is) a
  | .step is i p, a, w => wpQuiet P l.toArray D (fun a' => wpList P l.toArray (contQ Q fun a2 w2 => D w2 ∧ wpPlan P l D Q p a2 w2) (pickL l [i]) a' w) (pickL l is) a
  | .fork is i f p q, a, w => wpQuiet P l.toArray D (fun a' => wpList P l.toArray (contQ Q fun a2 w2 => D w2 ∧ wpPlan P l D Q p a2 w2) (pickL l [i]) a' w ∧ wpList P l.toArray (contQ Q fun a2 w2 => D w2 ∧ wpPlan P l D Q q a2 w2) (pickL l [f]) a' w) (pickL l is) a
theorem wpPlan_last {l : List Oper} {is : List Nat} {a : Act} {w : World} (h : wpQuiet P l.toArray D (fun a' => wpList P l.toArray (noPanic Q) [] a' w) (pickL l is) a) : wpPlan P l D Q (.last is) a w := h
theorem wpPlan_step {l : List Oper} {is : List Nat} {i : Nat} {p : Plan} {a : Act} {w : World}
    (h : wpQuiet P l.toArray D (fun a' => wpList P l.toArray (contQ Q fun a2 w2 => D w2 ∧ wpPlan P l D Q p a2 w2) (pickL l [i]) a' w) (pickL l is) a) : wpPlan P l D Q (.step is i p) a w := h
theorem wpPlan_fork {l : List Oper} {is : List Nat} {i f : Nat} {p q : Plan} {a : Act} {w : World}
    (h : wpQuiet P l.toArray D (fun a' => wpList P l.toArray (contQ Q fun a2 w2 => D w2 ∧ wpPlan P l D Q p a2 w2) (pickL l [i]) a' w ∧ wpList P l.toArray (contQ Q fun a2 w2 => D w2 ∧ wpPlan P l D Q q a2 w2) (pickL l [f]) a' w) (pickL l is) a) : wpPlan P l D Q (.fork is i f p q) a w := h
theorem contQ_now {K : Act → World → Prop} {a : Act} {w : World} (h : K a w) : contQ Q K .normal a w := h

theorem wpAnyM_plan {l : List Oper} (hs : Region.noSelect l.toArray = true) : ∀ (p : Plan) (listed : Array Bool) (a : Act) (w : World), p.inB l.length = true → ClosedL md l.toArray listed →
    p.okB md l.toArray listed = true → D w → wpPlan P l D Q p a w → wpAnyM P md l.toArray D [] (noPanic Q) p.len listed a w
  | .last is, listed, a, w, hin, hcl, hB, hD, h => by
    simp only [Plan.okB, Bool.and_eq_true] at hB
    have q1 := pickL_map (l := l) is hin
    exact wpAnyM_still hs (fun c a w h => h) w hD is _ listed a q1 hcl hB.1 (wpQuiet_mono (fun a' h' => wpAnyM_seq [] [] _ a' w (fun t ht => ht) rfl hB.2 h') _ _ h)
  | .step is i p, listed, a, w, hin, hcl, hB, hD, h => by
    simp only [Plan.inB, Bool.and_eq_true] at hin
    simp only [Plan.okB, Bool.and_eq_true, decide_eq_true_eq] at hB
    obtain ⟨⟨hst, hr⟩, hB'⟩ := hB
    have q1 := pickL_map (l := l) is hin.1.1
    have hi : i < l.length := by simpa using hin.1.2
    have e : l[i]? = some l[i] := List.getElem?_eq_getElem hi
    have hcl2 := closed_still is listed hcl hst
    refine wpAnyM_still hs (fun c a w h => h) w hD is _ listed a q1 hcl hst (wpQuiet_mono (fun a' h' => ?_) _ _ h)
    simp only [pickL, e] at h'
    refine ⟨fun h1 => (by rw [hr] at h1; cases h1), fun j hj => ?_⟩
    rw [hr] at hj
    obtain rfl : j = i := by simpa using hj
    have hm := wpOp_post (Q := Q) (show l.toArray[j]? = some l[j] by simp) h'
    exact wpOp_mono (fun a2 w2 ⟨hD2, h2⟩ => ⟨fun _ => hD2, wpAnyM_plan hs p _ a2 w2 hin.2 (hcl2.set (by rw [hr]; simp)) hB' hD2 h2⟩) hm
  | .fork is i f p q, listed, a, w, hin, hcl, hB, hD, h => by
    simp only [Plan.inB, Bool.and_eq_true] at hin
    simp only [Plan.okB, Bool.and_eq_true, Bool.or_eq_true, decide_eq_true_eq] at hB
    obtain ⟨⟨⟨⟨hst, hr⟩, hlen⟩, hp⟩, hq⟩ := hB
    obtain ⟨⟨⟨⟨hin1, hin2⟩, hin3⟩, hin4⟩, hin5⟩ := hin
    have q1 := pickL_map (l := l) is hin1
    have hi : i < l.length := by simpa using hin2
    have hf : f < l.length := by simpa using hin3
    have e : l[i]? = some l[i] := List.getElem?_eq_getElem hi
    have e2 : l[f]? = some l[f] := List.getElem?_eq_getElem hf
    have hcl2 := closed_still is listed hcl hst
    have hri : i ∈ Region.ready md l.toArray (listAll is listed) := by rcases hr with h | h <;> rw [h] <;> simp
    have hrf : f ∈ Region.ready md l.toArray (listAll is listed) := by rcases hr with h | h <;> rw [h] <;> simp
    refine wpAnyM_still hs (fun c a w h => h) w hD is _ listed a q1 hcl hst (wpQuiet_mono (fun a' h' => ?_) _ _ h)
    simp only [pickL, e, e2] at h'
    refine ⟨fun h1 => (by rw [h1] at hri; cases hri), fun j hj => ?_⟩
    have hj2 : j = i ∨ j = f := by rcases hr with h | h <;> (rw [h] at hj; simp at hj; omega)
    rcases hj2 with rfl | rfl
    · have hm := wpOp_post (Q := Q) (show l.toArray[j]? = some l[j] by simp) h'.1
      exact wpOp_mono (fun a2 w2 ⟨hD2, h2⟩ => ⟨fun _ => hD2, wpAnyM_plan hs p _ a2 w2 hin4 (hcl2.set hri) hp hD2 h2⟩) hm
    · have hm := wpOp_post (Q := Q) (show l.toArray[j]? = some l[j] by simp) h'.2
      refine wpOp_mono (fun a2 w2 ⟨hD2, h2⟩ => ⟨fun _ => hD2, ?_⟩) hm
      have := wpAnyM_plan hs q _ a2 w2 hin5 (hcl2.set hrf) hq hD2 h2
      rw [← hlen] at this
      exact this

/-- **A region that draws its order**, by a plan. -/
theorem wp_region_plan {id : Nat} {a : Act} {w : World} {l : List Oper} (D : World → Prop) (p : Plan) (hm : P.follows .mixedOrders = true)
    (hB : (Region.noSelect l.toArray && p.inB l.length && decide (p.len = l.length) && p.okB .any l.toArray (Array.replicate l.length false)) = true)
    (h : ∀ w', (∃ x, w' = gw w x) → D w' ∧ wpPlan P l D Q p a w') : (Code.region id l.toArray true).wp P Q a w := by
  simp only [Bool.and_eq_true, decide_eq_true_eq] at hB
  obtain ⟨⟨⟨hs, hin⟩, hlen⟩, hB⟩ := hB
  refine Code.wp_mono (Q := noPanic Q) (fun e a w hq => by cases e <;> first | exact hq | exact False.elim hq) ?_
  refine wp_region_any hm ?_
  obtain ⟨hD, h2⟩ := h { w with drawn := w.drawn + 1 } ⟨⟨#[], w.drawn + 1⟩, by simp [gw]⟩
  have hcl : ClosedL .any l.toArray (Array.replicate l.length false) := ⟨by simp, fun j oj _ hl => (by rw [getD_replicate_false] at hl; cases hl)⟩
  have H := wpAnyM_plan (md := .any) hs p _ a _ hin hcl hB hD h2
  rw [hlen] at H
  have := wpAny_of_M _ _ _ _ H
  simpa using this
end
end Go
