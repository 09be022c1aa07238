/- Laws of regions inside a round of a range over a function (wide fence): the plain laws serve there too. No conditions beyond each theorem's own. -/
import Derived.Test.YtjgnafhbeekebaaGreatAx
import Derived.Test.YtjgnafhbeekebaaGreatAf
import Derived.OrdersIn
import Derived.ControlIn
set_option linter.unusedVariables false
set_option linter.unusedSimpArgs false
set_option linter.unusedSectionVars false
set_option linter.constructorNameAsVariable false
namespace Go
open Go.RowKit
section
variable {P : Program} {ops : Array Oper} {md : Region.Mode} {Q : Exit → Act → World → Prop} {l n : Nat}

def Oper.noDeferB (o : Oper) : Bool := match o.op with | .defer _ => false | _ => true
theorem Oper.noDefer {o : Oper} (h : o.noDeferB = true) : ∀ c, o.op ≠ .defer c := fun c hc => by simp [Oper.noDeferB, hc] at h

theorem wpIn_round_of {o : Oper} {a : Act} {w : World} {K : Act → World → Prop} (h : o.noDeferB = true) (hw : o.wp P a w K Q) : o.wpIn (Fence.wide.inRound l) n P a w K Q := by
  refine ⟨fun _ _ => trivial, ?_⟩
  rw [Oper.semAt_eq _ _ _ (Oper.noDefer h)]
  unfold Oper.wp at hw
  cases hr : (execOp a.eval o).run P w with
  | halt x w' => rw [hr] at hw; cases x <;> simp only [Oper.upon, Oper.uponIn] at hw ⊢ <;> exact hw
  | ok x w' =>
    rw [hr] at hw
    cases x <;> simp only [Oper.upon, Oper.uponIn] at hw ⊢ <;>
      first
        | exact hw
        | exact ⟨fun hd => (by cases hd), CallsIn.inRound _ (callsIn_wide.2 hw)⟩
        | exact ⟨fun hd => (by cases hd), fun c cs _ => let ⟨v, w', r, s⟩ := hw c cs; ⟨v, w', r, stepsIn_wide.2 s⟩⟩

theorem wpOpIn_round {i : Nat} {a : Act} {w : World} {K : Act → World → Prop} (hL : ¬ LetsOut Q) (h : ∀ o : Oper, ops[i]? = some o → o.noDeferB = true) (hw : wpOp P ops Q i K a w) : wpOpIn (Fence.wide.inRound l) n P ops Q i K a w := by
  unfold wpOp at hw
  unfold wpOpIn
  cases ho : ops[i]? with
  | none => simp only [ho] at hw; exact hw
  | some o =>
    simp only [ho] at hw ⊢
    by_cases hq : Region.wanted o (yielded ops a.tmps) = true
    · rw [if_pos hq] at hw ⊢
      exact wpIn_round_of (h o ho) (hw.resolve_right fun hx => hL hx.2)
    · rw [if_neg hq] at hw ⊢
      exact ⟨fun _ _ => trivial, hw⟩

theorem wpAnyIn_round (hL : ¬ LetsOut Q) (hn : ∀ (i : Nat) (o : Oper), ops[i]? = some o → o.noDeferB = true) : ∀ (f : Nat) (listed : Array Bool) (a : Act) (w : World), wpAny P md ops Q f listed a w → wpAnyIn (Fence.wide.inRound l) n P md ops Q f listed a w
  | 0, _, _, _, h => h
  | f + 1, _, _, _, h => ⟨h.1, fun i hi => wpOpIn_mono (fun a' w' h' => wpAnyIn_round hL hn f _ a' w' h') (wpOpIn_round hL (hn i) (h.2 i hi))⟩

theorem noDefer_all {l : List Oper} (h : l.all Oper.noDeferB = true) : ∀ (i : Nat) (o : Oper), l.toArray[i]? = some o → o.noDeferB = true := fun i o ho => by
  have : o ∈ l := List.mem_of_getElem? (by simpa using ho)
  exact List.all_eq_true.1 h o this

/-- a region that draws its order, in a round: by the plain walk of each order -/
theorem wpIn_region_any_round {id : Nat} {a : Act} {w : World} {l' : List Oper} (hL : ¬ LetsOut Q) (hm : P.follows .mixedOrders = true) (hn : l'.all Oper.noDeferB = true)
    (h : wpAny P .any l'.toArray Q l'.toArray.size (Array.replicate l'.toArray.size false) a { w with drawn := w.drawn + 1 }) : (Code.region id l'.toArray true).wpIn (Fence.wide.inRound l) n P Q a w :=
  wpIn_region_any hm (wpAnyIn_round hL (noDefer_all hn) _ _ _ _ h)

/-- wp_region_steps in a round -/
theorem wpIn_region_steps {id : Nat} {a : Act} {w : World} {l' : List Oper} (D : World → Prop) (ss : List (List Nat × Nat)) (last T : List Nat) (hL : ¬ LetsOut Q) (hm : P.follows .mixedOrders = true)
    (hB : (Region.noSelect l'.toArray && segInB l'.length last T ss && decide (segLen last T ss = l'.length) && Region.segB .any l'.toArray last T ss (Array.replicate l'.length false)) = true) (hn : l'.all Oper.noDeferB = true)
    (h : ∀ w', (∃ x, w' = gw w x) → D w' ∧ wpSeg P l' D Q last T ss a w') : (Code.region id l'.toArray true).wpIn (Fence.wide.inRound l) n P Q a w := by
  simp only [Bool.and_eq_true, decide_eq_true_eq] at hB
  obtain ⟨⟨⟨hs, hin⟩, hlen⟩, hB⟩ := hB
  refine wpIn_mono (Q := noPanic Q) ?_ (fun e a w hq => by cases e <;> first | exact hq | exact False.elim hq)
  refine wpIn_region_any_round (fun ⟨a, w, h⟩ => hL ⟨a, w, h⟩) hm hn ?_
  obtain ⟨hD, h2⟩ := h { w with drawn := w.drawn + 1 } ⟨⟨#[], w.drawn + 1⟩, by simp [gw]⟩
  have hcl : ClosedL .any l'.toArray (Array.replicate l'.length false) := ⟨by simp, fun j oj _ hl => (by rw [getD_replicate_false] at hl; cases hl)⟩
  have H := wpAnyM_seg (md := .any) hs ss _ a _ hin hcl hB hD h2
  rw [hlen] at H
  have := wpAny_of_M _ _ _ _ H
  simpa using this

/-- a region in the text's order, in a round -/
theorem wpListIn_round {rest : List Oper} (hL : ¬ LetsOut Q) (hn : rest.all Oper.noDeferB = true) : ∀ {a : Act} {w : World}, wpList P ops Q rest a w → wpListIn (Fence.wide.inRound l) n P ops Q rest a w := by
  induction rest with
  | nil => exact fun h => h
  | cons o rest ih =>
    intro a w h
    simp only [List.all_cons, Bool.and_eq_true] at hn
    simp only [wpList, wpListIn] at h ⊢
    by_cases hq : Region.wanted o (yielded ops a.tmps) = true
    · rw [if_pos hq] at h ⊢
      exact wpIn_round_of hn.1 (Oper.wp_mono (fun a' w' h' => ih hn.2 h') (h.resolve_right fun hx => hL hx.2))
    · rw [if_neg hq] at h ⊢
      exact ⟨fun _ _ => trivial, ih hn.2 h⟩
theorem wpIn_region_round {id : Nat} {a : Act} {w : World} {l' : List Oper} (hL : ¬ LetsOut Q) (hn : l'.all Oper.noDeferB = true) (h : wpList P l'.toArray Q l' a w) : (Code.region id l'.toArray false).wpIn (Fence.wide.inRound l) n P Q a w :=
  wpIn_region_lit (wpListIn_round hL hn h)
end

/-! ### Leaving with marks of ranges over functions -/
/-- two worlds that differ in some blocks at most -/
structure ButIn (ms : List Nat) (w w' : World) : Prop where
  os : w'.os = w.os
  tape : w'.tape = w.tape
  output : w'.output = w.output
  size : w'.heap.size = w.heap.size
  block : ∀ k, k ∉ ms → w'.heap[k]? = w.heap[k]?
def marks (ms : List Nat) : List Deferred := ms.map fun D => { target := .collected D, args := #[] }
theorem leaves_marks {P : Program} {n : Nat} {fn : Func} {tmps : Array Value} {R : Ending → World → Prop} : ∀ (ms : List Nat) (w : World), (∀ D, D ∈ ms → w.heap[D]? = some (.deferred (some []))) → ms.Nodup →
    (∀ w', ButIn ms w w' → LeavesIn Fence.wide n P fn tmps R [] .returning w') → LeavesInM Fence.wide n P fn tmps R (marks ms) .returning w
  | [], w, _, _, h => h w ⟨rfl, rfl, rfl, rfl, fun _ _ => rfl⟩
  | D :: ms, w, hm, hnd, h => by
    have hD := hm D (by simp)
    have hnd' := List.nodup_cons.1 hnd
    refine ⟨by simp, .inl ⟨D, _, rfl, run_takeDeferred hD, ?_⟩⟩
    refine leaves_marks ms (w.putObj D (.deferred none)) (fun E hE => ?_) hnd'.2 (fun w' hb => h w' ?_)
    · have hne : E ≠ D := fun e => hnd'.1 (e ▸ hE)
      exact (World.putObj_heap_other hne).trans (hm E (by simp [hE]))
    · refine ⟨hb.os, hb.tape, hb.output, by rw [hb.size]; simp [World.putObj], fun k hk => ?_⟩
      have hk1 : k ≠ D := fun e => hk (by simp [e])
      have hk2 : k ∉ ms := fun e => hk (by simp [e])
      exact (hb.block k hk2).trans (World.putObj_heap_other hk1)
theorem ButIn.below {ms : List Nat} {w w' w0 : World} {n : Nat} (h : ButIn ms w w') (hb : Below n w0 w) (hm : ∀ D, D ∈ ms → n ≤ D) : Below n w0 w' :=
  ⟨h.os.trans hb.os, h.tape.trans hb.tape, h.output.trans hb.output, by rw [h.size]; exact hb.size, fun k hk => (h.block k (fun e => by have := hm k e; omega)).trans (hb.block k hk)⟩
end Go
