/- Own laws: a range over a function whose iterator has any contract (wide fence). Blocks that are held. No conditions beyond each theorem's own. -/
import Derived.Test.YtjgnafhbeekebaaGreatAa
import Derived.RangeFuncNested
import Derived.RangeFuncBound
import Derived.RangeFuncCalls
import Derived.RangeFuncLeaves
import Derived.Shelf.Abstract
import Derived.Shelf.RegionOpen
import Derived.OwnWalkIn
import Derived.TacticsInMore
import Derived.LoopNIn
import Derived.LoopIn
import Derived.RangeFuncBox
import Derived.RegionTactic
set_option linter.unusedVariables false
set_option linter.unusedSimpArgs false
set_option linter.unusedSectionVars false
set_option linter.constructorNameAsVariable false
namespace Go
open Go.RowKit
variable {n : Nat} {P : Program}

theorem wpIn_rangeFunc_J {g : Operand} {ps : Array Tmp} {assign body : Code} {Q : Exit → Act → World → Prop} {a : Act} {w : World}
    {gf : Nat} {lb : Array Value} (hg : a.eval g = .func (.func gf) #[] lb) (eg : ∀ args w, (callFunc gf args).run P w = .ok (.enter gf args) w)
    (E : Loop → Ending → World → Prop)
    (hcall : ∀ rec : Loop, rec.state = .ready → rec.pending = none → rec.tmps = a.tmps → rec.params = ps → rec.assign = assign → rec.body = body →
      CallsIn Fence.wide (n - 1) P gf (#[.func (.yield (w.heap.size + 1)) #[] #[]] ++ lb) ((w.alloc (.deferred (some []))).alloc (.loop rec)) (E rec))
    (hret : ∀ rec v W, rec.state = .ready → rec.pending = none → E rec (.returned v) W → W.heap[w.heap.size + 1]? = some (.loop rec) ∧
      Q .normal { a with defers := { target := .collected w.heap.size, args := #[] } :: a.defers } (W.putObj (w.heap.size + 1) (.loop { rec with state := .exhausted })))
    (hpan : ∀ rec chain W, E rec (.panicked chain) W → Q (.panic chain) { a with defers := { target := .collected w.heap.size, args := #[] } :: a.defers } W)
    (hout : ∀ rec W, ¬ E rec .outgrown W) :
    (Code.rangeFunc g ps assign body).wpIn Fence.wide n P Q a w := by
  refine wpIn_rangeFunc ?_
  intro fn _
  obtain ⟨rec, hrec⟩ : ∃ rec : Loop, rec = { state := .ready, pending := none, fn, tmps := a.tmps, params := ps, assign, body, defers := w.heap.size } := ⟨_, rfl⟩
  have hst : rec.state = .ready := by rw [hrec]
  have hpe : rec.pending = none := by rw [hrec]
  have hc := hcall rec hst hpe (by rw [hrec]) (by rw [hrec]) (by rw [hrec]) (by rw [hrec])
  obtain ⟨W1, hW1⟩ : ∃ W1, (w.alloc (.deferred (some []))).alloc (.loop rec) = W1 := ⟨_, rfl⟩
  rw [hW1] at hc
  refine ⟨w.heap.size + 1, [{ target := .collected w.heap.size, args := #[] }], W1,
    { target := .fn (.func gf) lb, args := #[.func (.yield (w.heap.size + 1)) #[] #[]] }, W1, gf, #[.func (.yield (w.heap.size + 1)) #[] #[]] ++ lb, W1, (by rw [← hW1, hrec]; exact run_enterLoop_outer _ _ _ _ _), ?_, fun _ _ => trivial, ?_, (fun h => (by cases h)), ?_⟩
  · simp only [resolve, hg]
    simp [go_sem]
  · simp [invoke, go_sem, eg]
  · refine hc.mono fun e W hE => ?_
    cases e with
    | returned v =>
      obtain ⟨hl, hq⟩ := hret rec v W hst hpe hE
      exact ⟨none, _, by rw [← hpe]; exact run_endLoop hl (by rw [hst]; simp), hq⟩
    | panicked chain => exact hpan rec chain W hE
    | outgrown => exact (hout rec W hE).elim

theorem yieldAt_J {l : Nat} {rec : Loop} {args : Array Value} {W : World} {R : Ending → World → Prop} {tmps : Array Value} {ps : Array Tmp} {assign body : Code} (hl : W.heap[l]? = some (.loop rec)) (hst : rec.state = .ready)
    (hT : rec.tmps = tmps) (hPs : rec.params = ps) (hA : rec.assign = assign) (hBd : rec.body = body) (hsz : args.size = ps.size)
    (h : assign.wpIn (Fence.wide.inRound l) n P (Exit.then (fun a₁ w₁ => w₁.heap[l]? = some (.loop rec) ∧ body.wpIn (Fence.wide.inRound l) n P (roundPost P l R) a₁ (w₁.putObj l (.loop { rec with state := .busy }))) (fun _ _ _ => False))
      { tmps := (ps.zip args).foldl (fun t (p, v) => t.setIfInBounds p v) tmps, defers := [] } W) : YieldAt Fence.wide n P l args W R := by
  subst hT hPs hA hBd
  refine ⟨rec.fn, _, rec.assign, rec.body, run_yield hl hsz, roundIn_of_wpIn trivial (wpIn_mono h ?_)⟩
  intro e a w1 hw
  cases e with
  | normal => exact ⟨_, run_beginRound hw.1 hst, hw.2⟩
  | exit id => exact hw
  | goto t => exact hw
  | ret => exact hw
  | panic ch => exact hw
  | outgrown => exact hw
/-- The same, where a round may leave the loop with a jump. -/
theorem wpIn_rangeFunc_X {g : Operand} {ps : Array Tmp} {assign body : Code} {Q : Exit → Act → World → Prop} {a : Act} {w : World}
    {gf : Nat} {lb : Array Value} (hg : a.eval g = .func (.func gf) #[] lb) (eg : ∀ args w, (callFunc gf args).run P w = .ok (.enter gf args) w)
    (E : Loop → Ending → World → Prop)
    (hcall : ∀ rec : Loop, rec.state = .ready → rec.pending = none → rec.tmps = a.tmps → rec.params = ps → rec.assign = assign → rec.body = body →
      CallsIn Fence.wide (n - 1) P gf (#[.func (.yield (w.heap.size + 1)) #[] #[]] ++ lb) ((w.alloc (.deferred (some []))).alloc (.loop rec)) (E rec))
    (hret : ∀ rec v W, rec.state = .ready → rec.pending = none → E rec (.returned v) W → ∃ r : Loop, W.heap[w.heap.size + 1]? = some (.loop r) ∧ r.state ≠ .busy ∧
      (match r.pending with
       | none => Q .normal { a with defers := { target := .collected w.heap.size, args := #[] } :: a.defers } (W.putObj (w.heap.size + 1) (.loop { r with state := .exhausted }))
       | some c => c.wpIn Fence.wide n P Q { a with defers := { target := .collected w.heap.size, args := #[] } :: a.defers } (W.putObj (w.heap.size + 1) (.loop { r with state := .exhausted }))))
    (hout : ∀ rec e W, E rec e W → ∃ v, e = .returned v) :
    (Code.rangeFunc g ps assign body).wpIn Fence.wide n P Q a w := by
  refine wpIn_rangeFunc ?_
  intro fn _
  obtain ⟨rec, hrec⟩ : ∃ rec : Loop, rec = { state := .ready, pending := none, fn, tmps := a.tmps, params := ps, assign, body, defers := w.heap.size } := ⟨_, rfl⟩
  have hst : rec.state = .ready := by rw [hrec]
  have hpe : rec.pending = none := by rw [hrec]
  have hc := hcall rec hst hpe (by rw [hrec]) (by rw [hrec]) (by rw [hrec]) (by rw [hrec])
  obtain ⟨W1, hW1⟩ : ∃ W1, (w.alloc (.deferred (some []))).alloc (.loop rec) = W1 := ⟨_, rfl⟩
  rw [hW1] at hc
  refine ⟨w.heap.size + 1, [{ target := .collected w.heap.size, args := #[] }], W1,
    { target := .fn (.func gf) lb, args := #[.func (.yield (w.heap.size + 1)) #[] #[]] }, W1, gf, #[.func (.yield (w.heap.size + 1)) #[] #[]] ++ lb, W1, (by rw [← hW1, hrec]; exact run_enterLoop_outer _ _ _ _ _), ?_, fun _ _ => trivial, ?_, (fun h => (by cases h)), ?_⟩
  · simp only [resolve, hg]
    simp [go_sem]
  · simp [invoke, go_sem, eg]
  · refine hc.mono fun e W hE => ?_
    obtain ⟨v, rfl⟩ := hout rec e W hE
    obtain ⟨r, hl, hb, hq⟩ := hret rec v W hst hpe hE
    exact ⟨r.pending, _, run_endLoop hl hb, hq⟩

theorem grownBy_some {W W' : World} (h : W.grownBy W' none) (r : Option Nat) : W.grownBy W' r := ⟨h.os, h.tape, h.output, h.size, fun k hk _ => h.block k hk (by simp)⟩
/-- a round has been: its record is as it was -/
theorem round_grown {V Wb W3 : World} {l : Nat} {row : Option Nat} {rec : Loop} (hl : V.heap[l]? = some (.loop rec)) (h1 : V.grownBy Wb (some l)) (h2 : Wb.grownBy W3 row) : V.grownBy (W3.putObj l (.loop rec)) row := by
  have hlt := (Array.getElem?_eq_some_iff.1 hl).1
  have z := h1.size
  have z2 := h2.size
  refine ⟨h2.os.trans h1.os, h2.tape.trans h1.tape, h2.output.trans h1.output, by show _ ≤ (W3.heap.setIfInBounds l _).size; simp; omega, fun k hk hr => ?_⟩
  by_cases e : k = l
  · subst e
    rw [World.putObj_heap_same (by omega), hl]
  · rw [World.putObj_heap_other e, h2.block k (by omega) hr, h1.block k hk (by simpa using e)]
theorem loop_again {rec : Loop} (h1 : rec.state = .ready) (h2 : rec.pending = none) : ({ ({ rec with state := .busy } : Loop) with state := .ready, pending := none } : Loop) = rec := by
  cases rec; simp_all
/-- blocks that lie as they are told -/
def Held (l : List (Nat × Obj)) (W : World) : Prop := ∀ p ∈ l, W.heap[p.1]? = some p.2
theorem Held.lt {l : List (Nat × Obj)} {W : World} (h : Held l W) {p : Nat × Obj} (hp : p ∈ l) : p.1 < W.heap.size := (Array.getElem?_eq_some_iff.1 (h p hp)).1
theorem Held.grown {l : List (Nat × Obj)} {W W' : World} {K : Nat} (h : Held l W) (g : W.grownBy W' (some K)) (hK : ∀ p ∈ l, p.1 ≠ K) : Held l W' :=
  fun p hp => (g.block p.1 (h.lt hp) (by simpa using hK p hp)).trans (h p hp)
theorem Held.new {l : List (Nat × Obj)} {W W' : World} {K : Nat} (h : Held l W) (g : W.grownBy W' (some K)) (hK : W.heap.size ≤ K) : Held l W' :=
  h.grown g fun p hp e => by have := h.lt hp; omega
theorem Held.below {l : List (Nat × Obj)} {W W' : World} (h : Held l W) (g : Below W.heap.size W W') : Held l W' :=
  fun p hp => (g.block p.1 (h.lt hp)).trans (h p hp)
end Go
