/- Laws of functions that defer one that recovers: its region may draw its order; stores ahead of the end. No conditions beyond each theorem's own. -/
import Derived.Test.YtjgnafhbeekebaaGreatAl
import Derived.Test.YtjgnafhbeekebaaGreatAf
import Derived.Recover
import Derived.Orders
import Derived.RecoverIn
import Derived.RangeFuncNested
import Derived.Laws.AppendOwnNone
set_option linter.unusedVariables false
set_option linter.unusedSimpArgs false
set_option linter.unusedSectionVars false
set_option linter.constructorNameAsVariable false
namespace Go
section
variable {P : Program} {ops : Array Oper} {Q : Exit → Act → List Frame → World → Prop} {md : Region.Mode}

/-- one operation of a deferred function's region -/
def wpOpR (P : Program) (ops : Array Oper) (Q : Exit → Act → List Frame → World → Prop) (i : Nat) (K : Act → List Frame → World → Prop) (a : Act) (cs : List Frame) (w : World) : Prop :=
  match ops[i]? with
  | none => K a cs w
  | some o =>
    if Region.wanted o (yielded ops a.tmps) then
      match (execOp a.eval o).run P w with
      | .ok .recover w' =>
        match recoverD cs with
        | some (v, cs') => K (a.put o.dst v) cs' w'
        | none => K (a.put o.dst .nilIface) cs w'
      | r => o.upon P a (fun a' w' => K a' cs w') (fun e a' w' => Q e a' cs w') r
    else K (a.put o.dst undef) cs w

theorem wpOpsR_cons (i : Nat) (rest : List Nat) (a : Act) (cs : List Frame) (w : World) : wpOpsS P ops Q (i :: rest) a cs w = wpOpR P ops Q i (wpOpsS P ops Q rest) a cs w := by
  cases h : ops[i]? <;> simp [wpOpsS, wpOpR, h] <;> rfl

theorem uponR_mono {o : Oper} {a : Act} {K K' : Act → World → Prop} {Q : Exit → Act → World → Prop} (h : ∀ a w, K a w → K' a w) {r : Result Next} (hh : o.upon P a K Q r) : o.upon P a K' Q r := by
  cases r with
  | ok n w' =>
    cases n <;> simp only [Oper.upon] at hh ⊢ <;>
      first
        | exact h _ _ hh
        | exact Calls.mono hh (fun e w'' he => by cases e <;> first | exact h _ _ he | exact he)
        | exact Rows.mono hh (fun _ _ he => h _ _ he)
  | halt x w' => cases x <;> simp only [Oper.upon] at hh ⊢ <;> exact hh

theorem wpOpR_mono {i : Nat} {a : Act} {cs : List Frame} {w : World} {K K' : Act → List Frame → World → Prop} (h : ∀ a cs w, K a cs w → K' a cs w) (hh : wpOpR P ops Q i K a cs w) : wpOpR P ops Q i K' a cs w := by
  unfold wpOpR at *
  split
  · exact h _ _ _ (by simpa [*] using hh)
  · rename_i o ho
    simp only [ho] at hh
    split
    · rename_i hw
      simp only [hw, if_true] at hh
      split
      · rename_i w' hr
        simp only [hr] at hh
        split
        · rename_i v cs' hc
          simp only [hc] at hh
          exact h _ _ _ hh
        · rename_i hc
          simp only [hc] at hh
          exact h _ _ _ hh
      · rename_i r hr
        generalize (execOp a.eval o).run P w = r' at *
        have hh' : o.upon P a (fun a' w' => K a' cs w') (fun e a' w' => Q e a' cs w') r' := by
          cases r' with
          | halt x w' => exact hh
          | ok n w' => cases n <;> first | exact hh | exact absurd rfl (hr w')
        exact uponR_mono (fun a w => h a cs w) hh'
    · rename_i hw; simp only [hw] at hh; exact h _ _ _ hh

/-- whatever order is drawn -/
def wpAnyR (P : Program) (md : Region.Mode) (ops : Array Oper) (Q : Exit → Act → List Frame → World → Prop) : Nat → Array Bool → Act → List Frame → World → Prop
  | 0, listed, a, cs, w => Region.ready md ops listed = [] ∧ Q .normal a cs w
  | fuel + 1, listed, a, cs, w =>
    (Region.ready md ops listed = [] → Q .normal a cs w) ∧
    ∀ i ∈ Region.ready md ops listed, wpOpR P ops Q i (wpAnyR P md ops Q fuel (listed.setIfInBounds i true)) a cs w

theorem wpAnyR_sound : ∀ (fuel t : Nat) (listed : Array Bool) (a : Act) (cs : List Frame) (w : World), wpAnyR P md ops Q fuel listed a cs w →
    wpOpsS P ops Q (Region.linearise.go md ops fuel t listed []) a cs w := by
  intro fuel
  induction fuel with
  | zero => intro t listed a cs w h; simpa [Region.linearise.go, wpOpsS] using h.2
  | succ fuel ih =>
    intro t listed a cs w h
    obtain ⟨h₀, h₁⟩ := h
    simp only [Region.linearise.go]
    change wpOpsS P ops Q (match (Region.ready md ops listed)[t % (Region.ready md ops listed).length]? with
      | some i => Region.linearise.go md ops fuel (t / (Region.ready md ops listed).length) (listed.setIfInBounds i true) [i]
      | none => [].reverse) a cs w
    cases hi : (Region.ready md ops listed)[t % (Region.ready md ops listed).length]? with
    | none =>
      have hnil : Region.ready md ops listed = [] := by
        cases hr : Region.ready md ops listed with
        | nil => rfl
        | cons x xs =>
          rw [hr] at hi
          have hlt : t % (x :: xs).length < (x :: xs).length := Nat.mod_lt _ (by simp)
          simp at hi
          simp at hlt
          omega
      simpa [wpOpsS] using h₀ hnil
    | some i =>
      simp only []
      rw [linearise_go_acc, List.reverse_singleton, List.singleton_append, wpOpsR_cons]
      exact wpOpR_mono (fun a cs w => ih _ _ a cs w) (h₁ i (List.mem_of_getElem? hi))

theorem wpS_region_any {id : Nat} {a : Act} {cs : List Frame} {w : World} (hm : P.follows .mixedOrders = true)
    (h : wpAnyR P .any ops Q ops.size (Array.replicate ops.size false) a cs { w with drawn := w.drawn + 1 }) : (Code.region id ops true).wpS P Q a cs w :=
  fun b k hb hr => by
    have h' : wpOpsS P ops Q (Region.schedule (P.follows .mixedOrders) ops (w.tape w.drawn (.order b.fn id))) a cs { w with drawn := w.drawn + 1 } := by
      simp only [Region.schedule, hm, Bool.true_or, if_true]
      exact wpAnyR_sound ops.size _ _ a cs _ h
    obtain ⟨e, a', cs', w', q, r⟩ := wp_opsS _ a cs _ h' b k hb hr
    exact ⟨e, a', cs', w', q, .of_steps (.one step_region_draw) r⟩

/-- those that are ready, by name -/
theorem wpAnyR_step {fuel : Nat} {listed : Array Bool} {rs : List Nat} {a : Act} {cs : List Frame} {w : World} (hr : Region.ready md ops listed = rs) (hne : rs ≠ [])
    (h : ∀ i ∈ rs, wpOpR P ops Q i (wpAnyR P md ops Q fuel (listed.setIfInBounds i true)) a cs w) : wpAnyR P md ops Q (fuel + 1) listed a cs w :=
  ⟨fun h0 => absurd (hr.symm.trans h0) hne, fun i hi => h i (hr ▸ hi)⟩
theorem wpAnyR_done {listed : Array Bool} {a : Act} {cs : List Frame} {w : World} (hr : Region.ready md ops listed = []) (h : Q .normal a cs w) : wpAnyR P md ops Q 0 listed a cs w := ⟨hr, h⟩

theorem callsDIn_wide {n : Nat} {f : FuncId} {fn : Func} {c : Code} {args : Array Value} {u : FrameMode} {w : World} {R : Ending → FrameMode → World → Prop}
    (hf : P.funcs[f]? = some fn) (hb : fn.body = some c)
    (h : ∀ (c₀ : Frame) (cs : List Frame), c₀.mode = u →
      c.wpS P (bodyPostS P fn c₀ cs R) { tmps := args ++ Array.replicate (fn.ntmps - args.size) undef, defers := [] } (c₀ :: cs) w) :
    CallsDIn Fence.wide n P f args u w R := by
  refine ⟨trivial, fun c₀ cs hu _ => ?_⟩
  let b : Frame := { (default : Frame) with fn := f, kind := .deferred }
  have henter : Frame.enter P f args .deferred =
      b.at { tmps := args ++ Array.replicate (fn.ntmps - args.size) undef, defers := [] } [.code c] := by
    simp [Frame.enter, Frame.at, hf, hb, b]
  obtain ⟨e, a', cs', w', hq, harr⟩ := h c₀ cs hu b [] rfl rfl
  rw [← henter] at harr
  cases e with
  | normal =>
    obtain ⟨hd, u', rfl, v, hr, hR⟩ := hq
    exact ⟨.returned v, u', w', _, hR, comesIn_wide.2 (Steps.trans harr (.one step_end)), rfl, rfl, rfl, hd, fn, hf, hr⟩
  | ret =>
    obtain ⟨hd, u', rfl, v, hr, hR⟩ := hq
    obtain ⟨todo, hs⟩ := harr
    exact ⟨.returned v, u', w', _, hR, comesIn_wide.2 hs, rfl, rfl, rfl, hd, fn, hf, hr⟩
  | panic chain =>
    obtain ⟨hd, u', rfl, hR⟩ := hq
    obtain ⟨todo, hs⟩ := harr
    exact ⟨.panicked chain, u', w', _, hR, comesIn_wide.2 hs, rfl, rfl, rfl, hd, fn, hf⟩
  | exit id => exact hq.elim
  | goto l => exact hq.elim
  | outgrown =>
    obtain ⟨u', hR⟩ := hq
    exact ⟨.outgrown, u', w', b, hR, harr.resolve_left (by simp [b]), rfl, rfl, trivial⟩
end
end Go

namespace Go.Proofs.YtjgnafhbeekebaaGreat
open Go.RowKit

/-- a row and an error are stored -/
theorem two_stores {W5 : World} {N n2 n4 : Nat} {t2 t4 : TypeId} {u2 v2 u4 v4 : Value} (h2 : N ≤ n2) (h4 : N ≤ n4) (h24 : n2 ≠ n4)
    (K2 : W5.heap[n2]? = some (.cells #[u2] t2 (0, 0))) (K4 : W5.heap[n4]? = some (.cells #[u4] t4 (0, 0))) {X : World}
    (hX : ((W5.setCell ⟨n2, 0, none⟩ v2).setCell ⟨n4, 0, none⟩ v4) = X) :
    (∀ B, B ≠ n2 → B ≠ n4 → X.heap[B]? = W5.heap[B]?) ∧ X.heap[n2]? = some (.cells #[v2] t2 (0, 0)) ∧ X.heap[n4]? = some (.cells #[v4] t4 (0, 0)) ∧ Below N W5 X := by
  have far : ∀ (W : World) (b k : Nat) (v : Value) (B : Nat), B ≠ b → (W.setCell ⟨b, k, none⟩ v).heap[B]? = W.heap[B]? := fun W b k v B h => Below.heap_setCell W ⟨b, k, none⟩ v B h
  subst hX
  refine ⟨fun B b2 b4 => ?_, ?_, ?_, ?_⟩
  · rw [far _ _ _ _ _ b4, far _ _ _ _ _ b2]
  · rw [far _ _ _ _ _ h24]
    exact block_set 0 _ K2
  · exact block_set 0 _ ((far _ _ _ _ _ (Ne.symm h24)).trans K4)
  · exact (((Below.refl _ W5).setCell (p := ⟨n2, 0, none⟩) h2 _).setCell (p := ⟨n4, 0, none⟩) h4 _)

theorem leave_world {X : World} {N D n4 : Nat} {t4 : TypeId} {u4 v4 : Value} (hD : N ≤ D) (h4 : N ≤ n4) (h : n4 ≠ D) (K4 : X.heap[n4]? = some (.cells #[u4] t4 (0, 0))) {Z : World} (hZ : ((X.putObj D (.deferred none)).setCell ⟨n4, 0, none⟩ v4).drew = Z) :
    (∀ B, B ≠ D → B ≠ n4 → Z.heap[B]? = X.heap[B]?) ∧ Z.heap[n4]? = some (.cells #[v4] t4 (0, 0)) ∧ Below N X Z := by
  have far : ∀ (W : World) (b k : Nat) (v : Value) (B : Nat), B ≠ b → (W.setCell ⟨b, k, none⟩ v).heap[B]? = W.heap[B]? := fun W b k v B h => Below.heap_setCell W ⟨b, k, none⟩ v B h
  have dr : ∀ (W : World) (B : Nat), W.drew.heap[B]? = W.heap[B]? := fun _ _ => rfl
  subst hZ
  refine ⟨fun B b2 b4 => ?_, ?_, ?_⟩
  · rw [dr, far _ _ _ _ _ b4, World.putObj_heap_other b2]
  · rw [dr]; exact block_set 0 _ ((World.putObj_heap_other h).trans K4)
  · refine (Below.setCell (p := ⟨n4, 0, none⟩) ?_ h4 _).drew
    exact ⟨rfl, rfl, rfl, by simp [World.putObj], fun k hk => World.putObj_heap_other (by omega)⟩

theorem ownsRow_same {w w' : World} {base size n : Nat} {e : TypeId} {v : Value} {xs : List Value} (h : w.ownsRow base e size v n xs) (hs : ∀ g, some g = v.ownBlock → w'.heap[g]? = w.heap[g]?) : w'.ownsRow base e size v n xs := by
  refine ⟨h.1, ?_⟩
  rcases h.2 with hn | ⟨g, cap, cur, rfl, hb, hgg, rest⟩
  · exact .inl hn
  · exact .inr ⟨g, cap, cur, rfl, hb, (hs g rfl).trans hgg, rest⟩
end Go.Proofs.YtjgnafhbeekebaaGreat
