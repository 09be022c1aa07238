/- Own laws: a deferred function's region that draws its order and recovers. Own laws: a range over a function whose iterator may panic, in the wide fence. Plain words: the five stores of Run's results. Own law: append of one owned row to another one, in a guarded operation too. No conditions beyond each theorem's own. -/
import Derived.Test.YticgkhoidgkejaaGa
import Derived.Recover
import Derived.Orders
import Derived.RecoverIn
import Derived.RangeFuncNested
import Derived.Laws.AppendOwnNone
import Derived.Deep.RegionHeld
set_option linter.unusedVariables false
set_option linter.unusedSimpArgs false
set_option linter.unusedSectionVars false
set_option linter.constructorNameAsVariable false
namespace Go
section
variable {P : Program} {ops : Array Oper} {Q : Exit → Act → List Frame → World → Prop} {md : Region.Mode}

/-- one operation of a deferred function's region -/
def wpOpR (P : Program) (ops : Array Oper) (Q : Exit → Act → List Frame → World → Prop) (i : Nat) (K : Act → List Frame → World → Prop) (a : Act) (cs : List Frame) (w : World) : Prop :=
  match ops[i]? with
  | none => K a cs w
  | some o =>
    if Region.wanted o (yielded ops a.tmps) then
      match (execOp a.eval o).run P w with
      | .ok .recover w' =>
        match recoverD cs with
        | some (v, cs') => K (a.put o.dst v) cs' w'
        | none => K (a.put o.dst .nilIface) cs w'
      | r => o.upon P a (fun a' w' => K a' cs w') (fun e a' w' => Q e a' cs w') r
    else K (a.put o.dst undef) cs w

theorem wpOpsR_cons (i : Nat) (rest : List Nat) (a : Act) (cs : List Frame) (w : World) : wpOpsS P ops Q (i :: rest) a cs w = wpOpR P ops Q i (wpOpsS P ops Q rest) a cs w := by
  cases h : ops[i]? <;> simp [wpOpsS, wpOpR, h] <;> rfl

theorem uponR_mono {o : Oper} {a : Act} {K K' : Act → World → Prop} {Q : Exit → Act → World → Prop} (h : ∀ a w, K a w → K' a w) {r : Result Next} (hh : o.upon P a K Q r) : o.upon P a K' Q r := by
  cases r with
  | ok n w' =>
    cases n <;> simp only [Oper.upon] at hh ⊢ <;>
      first
        | exact h _ _ hh
        | exact Calls.mono hh (fun e w'' he => by cases e <;> first | exact h _ _ he | exact he)
        | exact Rows.mono hh (fun _ _ he => h _ _ he)
  | halt x w' => cases x <;> simp only [Oper.upon] at hh ⊢ <;> exact hh

theorem wpOpR_mono {i : Nat} {a : Act} {cs : List Frame} {w : World} {K K' : Act → List Frame → World → Prop} (h : ∀ a cs w, K a cs w → K' a cs w) (hh : wpOpR P ops Q i K a cs w) : wpOpR P ops Q i K' a cs w := by
  unfold wpOpR at *
  split
  · exact h _ _ _ (by simpa [*] using hh)
  · rename_i o ho
    simp only [ho] at hh
    split
    · rename_i hw
      simp only [hw, if_true] at hh
      split
      · rename_i w' hr
        simp only [hr] at hh
        split
        · rename_i v cs' hc
          simp only [hc] at hh
          exact h _ _ _ hh
        · rename_i hc
          simp only [hc] at hh
          exact h _ _ _ hh
      · rename_i r hr
        generalize (execOp a.eval o).run P w = r' at *
        have hh' : o.upon P a (fun a' w' => K a' cs w') (fun e a' w' => Q e a' cs w') r' := by
          cases r' with
          | halt x w' => exact hh
          | ok n w' => cases n <;> first | exact hh | exact absurd rfl (hr w')
        exact uponR_mono (fun a w => h a cs w) hh'
    · rename_i hw; simp only [hw] at hh; exact h _ _ _ hh

/-- whatever order is drawn -/
def wpAnyR (P : Program) (md : Region.Mode) (ops : Array Oper) (Q : Exit → Act → List Frame → World → Prop) : Nat → Array Bool → Act → List Frame → World → Prop
  | 0, listed, a, cs, w => Region.ready md ops listed = [] ∧ Q .normal a cs w
  | fuel + 1, listed, a, cs, w =>
    (Region.ready md ops listed = [] → Q .normal a cs w) ∧
    ∀ i ∈ Region.ready md ops listed, wpOpR P ops Q i (wpAnyR P md ops Q fuel (listed.setIfInBounds i true)) a cs w

theorem wpAnyR_sound : ∀ (fuel t : Nat) (listed : Array Bool) (a : Act) (cs : List Frame) (w : World), wpAnyR P md ops Q fuel listed a cs w →
    wpOpsS P ops Q (Region.linearise.go md ops fuel t listed []) a cs w := by
  intro fuel
  induction fuel with
  | zero => intro t listed a cs w h; simpa [Region.linearise.go, wpOpsS] using h.2
  | succ fuel ih =>
    intro t listed a cs w h
    obtain ⟨h₀, h₁⟩ := h
    simp only [Region.linearise.go]
    change wpOpsS P ops Q (match (Region.ready md ops listed)[t % (Region.ready md ops listed).length]? with
      | some i => Region.linearise.go md ops fuel (t / (Region.ready md ops listed).length) (listed.setIfInBounds i true) [i]
      | none => [].reverse) a cs w
    cases hi : (Region.ready md ops listed)[t % (Region.ready md ops listed).length]? with
    | none =>
      have hnil : Region.ready md ops listed = [] := by
        cases hr : Region.ready md ops listed with
        | nil => rfl
        | cons x xs =>
          rw [hr] at hi
          have hlt : t % (x :: xs).length < (x :: xs).length := Nat.mod_lt _ (by simp)
          simp at hi
          simp at hlt
          omega
      simpa [wpOpsS] using h₀ hnil
    | some i =>
      simp only []
      rw [linearise_go_acc, List.reverse_singleton, List.singleton_append, wpOpsR_cons]
      exact wpOpR_mono (fun a cs w => ih _ _ a cs w) (h₁ i (List.mem_of_getElem? hi))

theorem wpS_region_any {id : Nat} {a : Act} {cs : List Frame} {w : World} (hm : P.follows .mixedOrders = true)
    (h : wpAnyR P .any ops Q ops.size (Array.replicate ops.size false) a cs { w with drawn := w.drawn + 1 }) : (Code.region id ops true).wpS P Q a cs w :=
  fun b k hb hr => by
    have h' : wpOpsS P ops Q (Region.schedule (P.follows .mixedOrders) ops (w.tape w.drawn (.order b.fn id))) a cs { w with drawn := w.drawn + 1 } := by
      simp only [Region.schedule, hm, Bool.true_or, if_true]
      exact wpAnyR_sound ops.size _ _ a cs _ h
    obtain ⟨e, a', cs', w', q, r⟩ := wp_opsS _ a cs _ h' b k hb hr
    exact ⟨e, a', cs', w', q, .of_steps (.one step_region_draw) r⟩

/-- those that are ready, by name -/
theorem wpAnyR_step {fuel : Nat} {listed : Array Bool} {rs : List Nat} {a : Act} {cs : List Frame} {w : World} (hr : Region.ready md ops listed = rs) (hne : rs ≠ [])
    (h : ∀ i ∈ rs, wpOpR P ops Q i (wpAnyR P md ops Q fuel (listed.setIfInBounds i true)) a cs w) : wpAnyR P md ops Q (fuel + 1) listed a cs w :=
  ⟨fun h0 => absurd (hr.symm.trans h0) hne, fun i hi => h i (hr ▸ hi)⟩
theorem wpAnyR_done {listed : Array Bool} {a : Act} {cs : List Frame} {w : World} (hr : Region.ready md ops listed = []) (h : Q .normal a cs w) : wpAnyR P md ops Q 0 listed a cs w := ⟨hr, h⟩

theorem callsDIn_wide {n : Nat} {f : FuncId} {fn : Func} {c : Code} {args : Array Value} {u : FrameMode} {w : World} {R : Ending → FrameMode → World → Prop}
    (hf : P.funcs[f]? = some fn) (hb : fn.body = some c)
    (h : ∀ (c₀ : Frame) (cs : List Frame), c₀.mode = u →
      c.wpS P (bodyPostS P fn c₀ cs R) { tmps := args ++ Array.replicate (fn.ntmps - args.size) undef, defers := [] } (c₀ :: cs) w) :
    CallsDIn Fence.wide n P f args u w R := by
  refine ⟨trivial, fun c₀ cs hu _ => ?_⟩
  let b : Frame := { (default : Frame) with fn := f, kind := .deferred }
  have henter : Frame.enter P f args .deferred =
      b.at { tmps := args ++ Array.replicate (fn.ntmps - args.size) undef, defers := [] } [.code c] := by
    simp [Frame.enter, Frame.at, hf, hb, b]
  obtain ⟨e, a', cs', w', hq, harr⟩ := h c₀ cs hu b [] rfl rfl
  rw [← henter] at harr
  cases e with
  | normal =>
    obtain ⟨hd, u', rfl, v, hr, hR⟩ := hq
    exact ⟨.returned v, u', w', _, hR, comesIn_wide.2 (Steps.trans harr (.one step_end)), rfl, rfl, rfl, hd, fn, hf, hr⟩
  | ret =>
    obtain ⟨hd, u', rfl, v, hr, hR⟩ := hq
    obtain ⟨todo, hs⟩ := harr
    exact ⟨.returned v, u', w', _, hR, comesIn_wide.2 hs, rfl, rfl, rfl, hd, fn, hf, hr⟩
  | panic chain =>
    obtain ⟨hd, u', rfl, hR⟩ := hq
    obtain ⟨todo, hs⟩ := harr
    exact ⟨.panicked chain, u', w', _, hR, comesIn_wide.2 hs, rfl, rfl, rfl, hd, fn, hf⟩
  | exit id => exact hq.elim
  | goto l => exact hq.elim
  | outgrown =>
    obtain ⟨u', hR⟩ := hq
    exact ⟨.outgrown, u', w', b, hR, harr.resolve_left (by simp [b]), rfl, rfl, trivial⟩
end
end Go

namespace Go
open Go.RowKit
variable {n : Nat} {P : Program}

theorem wpIn_rangeFunc_J {g : Operand} {ps : Array Tmp} {assign body : Code} {Q : Exit → Act → World → Prop} {a : Act} {w : World}
    {gf : Nat} {lb : Array Value} (hg : a.eval g = .func (.func gf) #[] lb) (eg : ∀ args w, (callFunc gf args).run P w = .ok (.enter gf args) w)
    (E : Loop → Ending → World → Prop)
    (hcall : ∀ rec : Loop, rec.state = .ready → rec.pending = none → rec.tmps = a.tmps → rec.params = ps → rec.assign = assign → rec.body = body →
      CallsIn Fence.wide (n - 1) P gf (#[.func (.yield (w.heap.size + 1)) #[] #[]] ++ lb) ((w.alloc (.deferred (some []))).alloc (.loop rec)) (E rec))
    (hret : ∀ rec v W, rec.state = .ready → rec.pending = none → E rec (.returned v) W → W.heap[w.heap.size + 1]? = some (.loop rec) ∧
      Q .normal { a with defers := { target := .collected w.heap.size, args := #[] } :: a.defers } (W.putObj (w.heap.size + 1) (.loop { rec with state := .exhausted })))
    (hpan : ∀ rec chain W, E rec (.panicked chain) W → Q (.panic chain) { a with defers := { target := .collected w.heap.size, args := #[] } :: a.defers } W)
    (hout : ∀ rec W, ¬ E rec .outgrown W) :
    (Code.rangeFunc g ps assign body).wpIn Fence.wide n P Q a w := by
  refine wpIn_rangeFunc ?_
  intro fn _
  obtain ⟨rec, hrec⟩ : ∃ rec : Loop, rec = { state := .ready, pending := none, fn, tmps := a.tmps, params := ps, assign, body, defers := w.heap.size } := ⟨_, rfl⟩
  have hst : rec.state = .ready := by rw [hrec]
  have hpe : rec.pending = none := by rw [hrec]
  have hc := hcall rec hst hpe (by rw [hrec]) (by rw [hrec]) (by rw [hrec]) (by rw [hrec])
  obtain ⟨W1, hW1⟩ : ∃ W1, (w.alloc (.deferred (some []))).alloc (.loop rec) = W1 := ⟨_, rfl⟩
  rw [hW1] at hc
  refine ⟨w.heap.size + 1, [{ target := .collected w.heap.size, args := #[] }], W1,
    { target := .fn (.func gf) lb, args := #[.func (.yield (w.heap.size + 1)) #[] #[]] }, W1, gf, #[.func (.yield (w.heap.size + 1)) #[] #[]] ++ lb, W1, (by rw [← hW1, hrec]; exact run_enterLoop_outer _ _ _ _ _), ?_, fun _ _ => trivial, ?_, (fun h => (by cases h)), ?_⟩
  · simp only [resolve, hg]
    simp [go_sem]
  · simp [invoke, go_sem, eg]
  · refine hc.mono fun e W hE => ?_
    cases e with
    | returned v =>
      obtain ⟨hl, hq⟩ := hret rec v W hst hpe hE
      exact ⟨none, _, by rw [← hpe]; exact run_endLoop hl (by rw [hst]; simp), hq⟩
    | panicked chain => exact hpan rec chain W hE
    | outgrown => exact (hout rec W hE).elim

theorem yieldAt_J {l : Nat} {rec : Loop} {args : Array Value} {W : World} {R : Ending → World → Prop} {tmps : Array Value} {ps : Array Tmp} {assign body : Code} (hl : W.heap[l]? = some (.loop rec)) (hst : rec.state = .ready)
    (hT : rec.tmps = tmps) (hPs : rec.params = ps) (hA : rec.assign = assign) (hBd : rec.body = body) (hsz : args.size = ps.size)
    (h : assign.wpIn (Fence.wide.inRound l) n P (Exit.then (fun a₁ w₁ => w₁.heap[l]? = some (.loop rec) ∧ body.wpIn (Fence.wide.inRound l) n P (roundPost P l R) a₁ (w₁.putObj l (.loop { rec with state := .busy }))) (fun _ _ _ => False))
      { tmps := (ps.zip args).foldl (fun t (p, v) => t.setIfInBounds p v) tmps, defers := [] } W) : YieldAt Fence.wide n P l args W R := by
  subst hT hPs hA hBd
  refine ⟨rec.fn, _, rec.assign, rec.body, run_yield hl hsz, roundIn_of_wpIn trivial (wpIn_mono h ?_)⟩
  intro e a w1 hw
  cases e with
  | normal => exact ⟨_, run_beginRound hw.1 hst, hw.2⟩
  | exit id => exact hw
  | goto t => exact hw
  | ret => exact hw
  | panic ch => exact hw
  | outgrown => exact hw
end Go

namespace Go.Proofs.Yticgkhoidgkejaa
open Go.RowKit

theorem five_stores {W5 : World} {N n2 n3 n4 : Nat} (t2 t3 t4 : TypeId) {u2 v2 a0 a1 a2 v0 v1 v3 u4 v4 : Value} (h2 : N ≤ n2) (h3 : N ≤ n3) (h4 : N ≤ n4) (h23 : n2 ≠ n3) (h24 : n2 ≠ n4) (h34 : n3 ≠ n4)
    (K2 : W5.heap[n2]? = some (.cells #[u2] t2 (0, 0))) (K3 : W5.heap[n3]? = some (.cells #[a0, a1, a2] t3 (0, 0))) (K4 : W5.heap[n4]? = some (.cells #[u4] t4 (0, 0))) {X : World}
    (hX : (((((W5.setCell ⟨n2, 0, none⟩ v2).setCell ⟨n3, 0, none⟩ v0).setCell ⟨n3, 1, none⟩ v1).setCell ⟨n3, 2, none⟩ v3).setCell ⟨n4, 0, none⟩ v4).drew = X) :
    (∀ B, B ≠ n2 → B ≠ n3 → B ≠ n4 → X.heap[B]? = W5.heap[B]?) ∧ X.heap[n2]? = some (.cells #[v2] t2 (0, 0)) ∧ X.heap[n3]? = some (.cells #[v0, v1, v3] t3 (0, 0)) ∧ X.heap[n4]? = some (.cells #[v4] t4 (0, 0)) ∧ Below N W5 X := by
  have far : ∀ (W : World) (b k : Nat) (v : Value) (B : Nat), B ≠ b → (W.setCell ⟨b, k, none⟩ v).heap[B]? = W.heap[B]? := fun W b k v B h => Below.heap_setCell W ⟨b, k, none⟩ v B h
  have dr : ∀ (W : World) (B : Nat), W.drew.heap[B]? = W.heap[B]? := fun _ _ => rfl
  subst hX
  refine ⟨fun B b2 b3 b4 => ?_, ?_, ?_, ?_, ?_⟩
  · rw [dr, far _ _ _ _ _ b4, far _ _ _ _ _ b3, far _ _ _ _ _ b3, far _ _ _ _ _ b3, far _ _ _ _ _ b2]
  · rw [dr, far _ _ _ _ _ h24, far _ _ _ _ _ h23, far _ _ _ _ _ h23, far _ _ _ _ _ h23]
    exact block_set 0 _ K2
  · rw [dr, far _ _ _ _ _ h34]
    exact block_set 2 _ (block_set 1 _ (block_set 0 _ ((far _ _ _ _ _ (Ne.symm h23)).trans K3)))
  · rw [dr]
    exact block_set 0 _ ((far _ _ _ _ _ (Ne.symm h34)).trans ((far _ _ _ _ _ (Ne.symm h34)).trans ((far _ _ _ _ _ (Ne.symm h34)).trans ((far _ _ _ _ _ (Ne.symm h24)).trans K4))))
  · exact ((((((Below.refl _ W5).setCell (p := ⟨n2, 0, none⟩) h2 _).setCell (p := ⟨n3, 0, none⟩) h3 _).setCell (p := ⟨n3, 1, none⟩) h3 _).setCell (p := ⟨n3, 2, none⟩) h3 _).setCell (p := ⟨n4, 0, none⟩) h4 _).drew

theorem leave_world {X : World} {N D n4 : Nat} {t4 : TypeId} {u4 v4 : Value} (hD : N ≤ D) (h4 : N ≤ n4) (h : n4 ≠ D) (K4 : X.heap[n4]? = some (.cells #[u4] t4 (0, 0))) {Z : World} (hZ : ((X.putObj D (.deferred none)).setCell ⟨n4, 0, none⟩ v4).drew = Z) :
    (∀ B, B ≠ D → B ≠ n4 → Z.heap[B]? = X.heap[B]?) ∧ Z.heap[n4]? = some (.cells #[v4] t4 (0, 0)) ∧ Below N X Z := by
  have far : ∀ (W : World) (b k : Nat) (v : Value) (B : Nat), B ≠ b → (W.setCell ⟨b, k, none⟩ v).heap[B]? = W.heap[B]? := fun W b k v B h => Below.heap_setCell W ⟨b, k, none⟩ v B h
  have dr : ∀ (W : World) (B : Nat), W.drew.heap[B]? = W.heap[B]? := fun _ _ => rfl
  subst hZ
  refine ⟨fun B b2 b4 => ?_, ?_, ?_⟩
  · rw [dr, far _ _ _ _ _ b4, World.putObj_heap_other b2]
  · rw [dr]; exact block_set 0 _ ((World.putObj_heap_other h).trans K4)
  · refine (Below.setCell (p := ⟨n4, 0, none⟩) ?_ h4 _).drew
    exact ⟨rfl, rfl, rfl, by simp [World.putObj], fun k hk => World.putObj_heap_other (by omega)⟩

theorem ownsRow_same {w w' : World} {base size n : Nat} {e : TypeId} {v : Value} {xs : List Value} (h : w.ownsRow base e size v n xs) (hs : ∀ g, some g = v.ownBlock → w'.heap[g]? = w.heap[g]?) : w'.ownsRow base e size v n xs := by
  refine ⟨h.1, ?_⟩
  rcases h.2 with hn | ⟨g, cap, cur, rfl, hb, hgg, rest⟩
  · exact .inl hn
  · exact .inr ⟨g, cap, cur, rfl, hb, (hs g rfl).trans hgg, rest⟩
end Go.Proofs.Yticgkhoidgkejaa

namespace Go
open Go.RowKit
section
variable {P : Program} {w : World}
theorem wpList_wanted {ops : Array Oper} {rest : List Oper} {o : Oper} {a : Act} {Q : Exit → Act → World → Prop} (hgd : Region.wanted o (yielded ops a.tmps) = true)
    (h : ∀ K : Act → World → Prop, (∀ a w, wpList P ops Q rest a w → K a w) → o.wp P a w K Q) : wpList P ops Q (o :: rest) a w :=
  wpList_step fun K hK => by rw [if_pos hgd]; exact h K hK

/-- append(a, b...), both owned rows -/
theorem wpList_append_rows {ops : Array Oper} {rest : List Oper} {o : Oper} {a : Act} {Q : Exit → Act → World → Prop} (hgd : Region.wanted o (yielded ops a.tmps) = true) (s x : Operand) (t : TypeId)
    (ho : o.op = .call { callee := .builtin .append, args := #[s, x], argTypes := #[t, t] })
    (base : Nat) (e : TypeId) (i : TypeInfo) (z : Value) (size bytes : Nat) (ht : P.underlying t = some (.slice e)) (hi : P.info? e = some i) (hz : i.zero = some z)
    (hsize : i.size = size) (hby : i.bytes = bytes) (hzs : z.cells.size = size) (hsz : 0 < size)
    (v : Value) (n : Nat) (xs : List Value) (hs : a.eval s = v) (hown : w.ownsRow base e size v n xs)
    (u : Value) (m base2 : Nat) (news : List Value) (hx : a.eval x = u) (hown2 : w.ownsRow base2 e size u m news) (h1 : ∀ u ∈ news, u.oneCell' = true)
    (h63 : n + m ≤ maxLen) (hbytes : (n + m) * bytes ≤ 140737488355328) (hbase : base ≤ w.heap.size)
    (h : ∀ v' w', w'.ownsRow base e size v' (n + m) (xs ++ news) → w.grownBy w' v.ownBlock → wpList P ops Q rest (a.put o.dst v') w') : wpList P ops Q (o :: rest) a w := by
  refine wpList_wanted hgd fun K hK => ?_
  rcases hown2.2 with ⟨rfl, rfl⟩ | ⟨g, cap, cur, rfl, _, _, _, _, _, _⟩
  · have hrun := run_append_owned_none (P := P) (w := w) base t o.type e i size ht hi v n xs hown
    have hn : news = [] := List.length_eq_zero_iff.1 (by simpa using hown2.1)
    subst hn
    unfold Oper.wp
    simp [execOp, ho, resolve, invoke, builtin, hs, hx, hrun, Result.andThen]
    exact hK _ _ (h v w (by simpa using hown) ⟨rfl, rfl, rfl, Nat.le_refl _, fun _ _ _ => rfl⟩)
  · exact wp_append_own w s x t ho base e i z size bytes ht hi hz hsize hby hzs hsz v n xs hs hown ⟨g, 0, none⟩ m cap news hx hown2.1 (hown2.cells (g := g) rfl) h1 h63 hbytes hbase fun v' w' h2 h3 _ => hK _ _ (h v' w' h2 h3)

theorem World.ownsRow.base {base base' : Nat} {e : TypeId} {size n : Nat} {v : Value} {xs : List Value} (h : w.ownsRow base e size v n xs) (hb : base' ≤ base) : w.ownsRow base' e size v n xs :=
  ⟨h.1, h.2.imp id fun ⟨g, cap, cur, h1, h2, h3⟩ => ⟨g, cap, cur, h1, Nat.le_trans hb h2, h3⟩⟩
theorem far3 {W : World} {b B : Nat} (h : b ≠ B) (o : Nat) (x y z : Value) : (((W.setCell ⟨B, 0, none⟩ x).setCell ⟨B, 1, none⟩ y).setCell ⟨B, 2, none⟩ z).cell? ⟨b, o, none⟩ = W.cell? ⟨b, o, none⟩ := by
  rw [World.cell?_setCell_far _ _ _ _ (by simpa using Ne.symm h), World.cell?_setCell_far _ _ _ _ (by simpa using Ne.symm h), World.cell?_setCell_far _ _ _ _ (by simpa using Ne.symm h)]
end
end Go
