/- Own laws: a range over a function whose iterator may panic, in the wide fence. No conditions. -/
import Derived.RangeFuncNested
set_option linter.unusedVariables false
set_option linter.unusedSimpArgs false
set_option linter.unusedSectionVars false
set_option linter.constructorNameAsVariable false
namespace Go
open Go.RowKit
variable {n : Nat} {P : Program}

theorem wpIn_rangeFunc_J {g : Operand} {ps : Array Tmp} {assign body : Code} {Q : Exit → Act → World → Prop} {a : Act} {w : World}
    {gf : Nat} {lb : Array Value} (hg : a.eval g = .func (.func gf) #[] lb) (eg : ∀ args w, (callFunc gf args).run P w = .ok (.enter gf args) w)
    (E : Loop → Ending → World → Prop)
    (hcall : ∀ rec : Loop, rec.state = .ready → rec.pending = none → rec.tmps = a.tmps → rec.params = ps → rec.assign = assign → rec.body = body →
      CallsIn Fence.wide (n - 1) P gf (#[.func (.yield (w.heap.size + 1)) #[] #[]] ++ lb) ((w.alloc (.deferred (some []))).alloc (.loop rec)) (E rec))
    (hret : ∀ rec v W, rec.state = .ready → rec.pending = none → E rec (.returned v) W → W.heap[w.heap.size + 1]? = some (.loop rec) ∧
      Q .normal { a with defers := { target := .collected w.heap.size, args := #[] } :: a.defers } (W.putObj (w.heap.size + 1) (.loop { rec with state := .exhausted })))
    (hpan : ∀ rec chain W, E rec (.panicked chain) W → Q (.panic chain) { a with defers := { target := .collected w.heap.size, args := #[] } :: a.defers } W)
    (hout : ∀ rec W, ¬ E rec .outgrown W) :
    (Code.rangeFunc g ps assign body).wpIn Fence.wide n P Q a w := by
  refine wpIn_rangeFunc ?_
  intro fn _
  obtain ⟨rec, hrec⟩ : ∃ rec : Loop, rec = { state := .ready, pending := none, fn, tmps := a.tmps, params := ps, assign, body, defers := w.heap.size } := ⟨_, rfl⟩
  have hst : rec.state = .ready := by rw [hrec]
  have hpe : rec.pending = none := by rw [hrec]
  have hc := hcall rec hst hpe (by rw [hrec]) (by rw [hrec]) (by rw [hrec]) (by rw [hrec])
  obtain ⟨W1, hW1⟩ : ∃ W1, (w.alloc (.deferred (some []))).alloc (.loop rec) = W1 := ⟨_, rfl⟩
  rw [hW1] at hc
  refine ⟨w.heap.size + 1, [{ target := .collected w.heap.size, args := #[] }], W1,
    { target := .fn (.func gf) lb, args := #[.func (.yield (w.heap.size + 1)) #[] #[]] }, W1, gf, #[.func (.yield (w.heap.size + 1)) #[] #[]] ++ lb, W1, (by rw [← hW1, hrec]; exact run_enterLoop_outer _ _ _ _ _), ?_, fun _ _ => trivial, ?_, (fun h => (by cases h)), ?_⟩
  · simp only [resolve, hg]
    simp [go_sem]
  · simp [invoke, go_sem, eg]
  · refine hc.mono fun e W hE => ?_
    cases e with
    | returned v =>
      obtain ⟨hl, hq⟩ := hret rec v W hst hpe hE
      exact ⟨none, _, by rw [← hpe]; exact run_endLoop hl (by rw [hst]; simp), hq⟩
    | panicked chain => exact hpan rec chain W hE
    | outgrown => exact (hout rec W hE).elim

theorem yieldAt_J {l : Nat} {rec : Loop} {args : Array Value} {W : World} {R : Ending → World → Prop} {tmps : Array Value} {ps : Array Tmp} {assign body : Code} (hl : W.heap[l]? = some (.loop rec)) (hst : rec.state = .ready)
    (hT : rec.tmps = tmps) (hPs : rec.params = ps) (hA : rec.assign = assign) (hBd : rec.body = body) (hsz : args.size = ps.size)
    (h : assign.wpIn (Fence.wide.inRound l) n P (Exit.then (fun a₁ w₁ => w₁.heap[l]? = some (.loop rec) ∧ body.wpIn (Fence.wide.inRound l) n P (roundPost P l R) a₁ (w₁.putObj l (.loop { rec with state := .busy }))) (fun _ _ _ => False))
      { tmps := (ps.zip args).foldl (fun t (p, v) => t.setIfInBounds p v) tmps, defers := [] } W) : YieldAt Fence.wide n P l args W R := by
  subst hT hPs hA hBd
  refine ⟨rec.fn, _, rec.assign, rec.body, run_yield hl hsz, roundIn_of_wpIn trivial (wpIn_mono h ?_)⟩
  intro e a w1 hw
  cases e with
  | normal => exact ⟨_, run_beginRound hw.1 hst, hw.2⟩
  | exit id => exact hw
  | goto t => exact hw
  | ret => exact hw
  | panic ch => exact hw
  | outgrown => exact hw
end Go
