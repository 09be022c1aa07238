/- A law for regions that draw their order and hold operations that change memory one after the other (calls that count), between operations that leave each world as it is. A law for regions that draw their order, with operations that come one after the other and one that may come anywhere between them (the variable's memory). A law for regions that draw their order: operations one after the other, and a variable's memory that may be made anywhere between them: the operations are walked once. No conditions beyond each theorem's own. -/
import Derived.Test.YtjgnafhbeekebaaGreatAy
set_option linter.unusedVariables false
set_option linter.unusedSimpArgs false
set_option linter.unusedSectionVars false
set_option linter.constructorNameAsVariable false
namespace Go
open Go.RowKit

section
variable {P : Program} {ops : Array Oper} {md : Region.Mode} {D : World → Prop} {Q : Exit → Act → World → Prop}

/-- an operation that calls nothing and leaves each world as it is -/
def Oper.calmB (o : Oper) : Bool :=
  match o.op with
  | .move _ | .assign _ | .fieldAddr _ _ _ | .load _ _ | .build _ _ | .indexAddr _ _ _ | .binOp _ _ _ _ _ | .unOp _ _ _ | .extract _ _ | .pick _ _ _ | .nilCheck _ => true
  | .call c => match c.callee with
    | .builtin .len => true
    | _ => false
  | _ => false

theorem vbind_value {s : Sem Value} {w w' : World} {n : Next} (hr : (do pure (.value (← s)) : Sem Next).run P w = .ok n w') : ∃ v, n = .value v := by
  rw [Sem.run_bind] at hr
  cases h2 : s.run P w with
  | ok v w1 => rw [h2] at hr; simp [Result.andThen] at hr; exact ⟨_, hr.1.symm⟩
  | halt e w1 => rw [h2] at hr; simp [Result.andThen] at hr

theorem calm_value {o : Oper} (h : o.calmB = true) {ρ : Operand → Value} {w w' : World} {n : Next} (hr : (execOp ρ o).run P w = .ok n w') : ∃ v, n = .value v := by
  obtain ⟨dst, op, type, pos, after, guard⟩ := o
  cases op <;> simp only [Oper.calmB, Bool.false_eq_true] at h <;> simp only [execOp] at hr
  case move x => simp at hr; exact ⟨_, hr.1.symm⟩
  case assign x => simp at hr; exact ⟨_, hr.1.symm⟩
  case pick c a b =>
    rw [Sem.run_bind] at hr
    cases h2 : (asBool (ρ c)).run P w with
    | ok v w1 => rw [h2] at hr; simp [Result.andThen] at hr; exact ⟨_, hr.1.symm⟩
    | halt e w1 => rw [h2] at hr; simp [Result.andThen] at hr
  case nilCheck x =>
    split at hr
    · simp [runtimePanic, goPanic] at hr
    · simp [runtimePanic, goPanic] at hr
    · simp [runtimePanic, goPanic] at hr
    · split at hr
      · simp [runtimePanic, goPanic] at hr
      · rw [Sem.run_bind] at hr
        cases h1 : (program).run P w with
        | halt e w1 => rw [h1] at hr; simp [Result.andThen] at hr
        | ok p1 w1 =>
          rw [h1, Result.andThen_ok, Sem.run_bind] at hr
          cases h2 : (nilAhead (p1.types.size + Made.depth) _ _ _).run P w1 with
          | halt e w2 => rw [h2] at hr; simp [Result.andThen] at hr
          | ok b w2 =>
            rw [h2, Result.andThen_ok] at hr
            split at hr
            · rw [Sem.run_bind] at hr
              simp [unsupported, Result.andThen] at hr
            · simp at hr; exact ⟨_, hr.1.symm⟩
      · simp at hr; exact ⟨_, hr.1.symm⟩
    · simp at hr; exact ⟨_, hr.1.symm⟩
  case call c =>
    obtain ⟨callee, args, tys⟩ := c
    cases callee with
    | builtin b =>
      cases b <;> simp only [Bool.false_eq_true] at h
      exact vbind_value hr
    | invoke x y => simp at h
    | value x => simp at h
  all_goals exact vbind_value hr

theorem calm_of {o : Oper} {v : Value} {a : Act} (h : o.calmB = true) (hy : YieldsIn P ops D o v a) : StillIn P ops D o v a := by
  rcases hy with ⟨h1, h2⟩ | h1
  · refine .inl ⟨h1, fun w hw => ?_⟩
    have := h2 w hw
    unfold Oper.quietAt at this
    cases hr : (execOp a.eval o).run P w with
    | halt e w1 => rw [hr] at this; simp [Oper.quietUpon] at this
    | ok n w1 =>
      obtain ⟨u, rfl⟩ := calm_value h hr
      rw [hr] at this
      simp only [Oper.quietUpon] at this
      rw [this.1, this.2]
  · exact .inr h1

/-- every order; behind each operation but the last ones, T, the world is of the class -/
def wpAnyM (P : Program) (md : Region.Mode) (ops : Array Oper) (D : World → Prop) (T : List Nat) (Q : Exit → Act → World → Prop) : Nat → Array Bool → Act → World → Prop
  | 0, listed, a, w => Region.ready md ops listed = [] ∧ Q .normal a w
  | f + 1, listed, a, w => (Region.ready md ops listed = [] → Q .normal a w) ∧ ∀ i ∈ Region.ready md ops listed, wpOp P ops Q i (fun a' w' => (i ∉ T → D w') ∧ wpAnyM P md ops D T Q f (listed.setIfInBounds i true) a' w') a w

theorem wpAny_of_M {T : List Nat} : ∀ (f : Nat) (listed : Array Bool) (a : Act) (w : World), wpAnyM P md ops D T Q f listed a w → wpAny P md ops Q f listed a w
  | 0, _, _, _, h => h
  | f + 1, _, _, _, h => ⟨h.1, fun i hi => wpOp_mono (fun a' w' h' => wpAny_of_M f _ a' w' h'.2) (h.2 i hi)⟩

structure ClosedL (md : Region.Mode) (ops : Array Oper) (listed : Array Bool) : Prop where
  size : listed.size = ops.size
  closed : ∀ j oj, ops[j]? = some oj → listed.getD j false = true → ∀ e ∈ oj.after, Region.binds md e = true → listed.getD e.on false = true
theorem ClosedL.set {listed : Array Bool} {i : Nat} (h : ClosedL md ops listed) (hr : i ∈ Region.ready md ops listed) : ClosedL md ops (listed.setIfInBounds i true) :=
  ⟨by simp [h.size], closed_set h.size h.closed hr⟩

/-- a still operation may be taken first -/
theorem wpAnyM_first {T : List Nat} {i : Nat} {oi : Oper} {v : Value} (hi : ops[i]? = some oi) (hsel : ∀ (j : Nat) (o : Oper) cs b, ops[j]? = some o → o.op ≠ .select cs b) (hQ : ∀ c a w, ¬ Q (.panic c) a w)
    (hT : ∀ t ∈ T, Region.ancB md ops i ops.size t = true) :
    ∀ (f : Nat) (listed : Array Bool) (a : Act) (w : World), ClosedL md ops listed →
      (∀ j oj, ops[j]? = some oj → j ≠ i → listed.getD j true = false → (∀ e ∈ oj.after, Region.binds md e = true → e.on ≠ i) → oi.apart ops oj = true) →
      i ∈ Region.ready md ops listed → StillIn P ops D oi v a → D w → wpAnyM P md ops D T Q f (listed.setIfInBounds i true) (a.put oi.dst v) w → wpAnyM P md ops D T Q (f + 1) listed a w := by
  intro f
  induction f with
  | zero =>
    intro listed a w _ _ hr hy hD H
    refine ⟨fun h => (by rw [h] at hr; cases hr), fun j hj => ?_⟩
    by_cases hji : j = i
    · subst hji; exact hy.wpOp hi hD ⟨fun _ => hD, H⟩
    · have := ready_mono hj hji
      rw [H.1] at this
      cases this
  | succ f ih =>
    intro listed a w hcl hfree hr hy hD H
    refine ⟨fun h => (by rw [h] at hr; cases hr), fun j hj => ?_⟩
    by_cases hji : j = i
    · subst hji; exact hy.wpOp hi hD ⟨fun _ => hD, H⟩
    · have h1 := H.2 j (ready_mono hj hji)
      obtain ⟨hjun, oj, hoj, hall⟩ := mem_ready.1 hj
      have hun := (mem_ready.1 hr).1
      have hjT : j ∉ T := fun ht => by
        have := anc_listed hcl.closed i ops.size j (fun o ho => by rw [hoj] at ho; obtain rfl := Option.some.inj ho; exact hall) (hT j ht)
        rw [getD_both hun] at this
        cases this
      have hnot : ∀ e ∈ oj.after, Region.binds md e = true → e.on ≠ i := fun e he hb heq => by
        have h1 := hall e he hb
        rw [heq, getD_both hun] at h1
        cases h1
      have h2 := wpOp_still hoj (hfree j oj hoj hji hjun hnot) (fun cs b => hsel i oi cs b hi) (fun cs b => hsel j oj cs b hoj) hQ hy h1
      have hfree' : ∀ k ok, ops[k]? = some ok → k ≠ i → (listed.setIfInBounds j true).getD k true = false →
          (∀ e ∈ ok.after, Region.binds md e = true → e.on ≠ i) → oi.apart ops ok = true := fun k ok hk hki hun hno => by
        refine hfree k ok hk hki ?_ hno
        by_cases hjk : j = k
        · subst hjk; exact hjun
        · rw [getD_set_ne true hjk] at hun; exact hun
      refine wpOp_mono (fun a' w' h3 => ⟨h3.2.1, ih (listed.setIfInBounds j true) a' w' (hcl.set hj) hfree' (ready_mono hr (Ne.symm hji)) h3.1 (h3.2.1 hjT) ?_⟩) h2
      rw [Array.setIfInBounds_comm _ _ hji]
      exact h3.2.2

/-- the post with another one for the normal exit, and with no panic -/
def contQ (Q : Exit → Act → World → Prop) (K : Act → World → Prop) : Exit → Act → World → Prop := fun e a w => match e with
  | .normal => K a w
  | .panic _ => False
  | e => Q e a w

theorem contQ_nil {K : Act → World → Prop} {a : Act} {w : World} (h : K a w) : wpList P ops (contQ Q K) [] a w := h
theorem contN_nil {a : Act} {w : World} (h : Q .normal a w) : wpList P ops (noPanic Q) [] a w := h

theorem letsOut_cont {K : Act → World → Prop} (h : LetsOut (contQ Q K)) : LetsOut (noPanic Q) := let ⟨a, w, h⟩ := h; ⟨a, w, h⟩

theorem wpOp_post {i : Nat} {K : Act → World → Prop} {o : Oper} {a : Act} {w : World} (hi : ops[i]? = some o)
    (h : wpList P ops (contQ Q K) [o] a w) : wpOp P ops (noPanic Q) i K a w := by
  have h' : wpOp P ops (contQ Q K) i K a w := by unfold wpOp; simp only [hi]; exact h
  unfold wpOp at h' ⊢
  simp only [hi] at h' ⊢
  by_cases hw : Region.wanted o (yielded ops a.tmps) = true
  · rw [if_pos hw] at h' ⊢
    rcases h' with h | ⟨ha, hl⟩
    · left
      unfold Oper.wp at *
      cases hr : (execOp a.eval o).run P w with
      | halt x w' => rw [hr] at h; cases x <;> simp only [Oper.upon] at h ⊢ <;> first | exact h | exact False.elim h
      | ok n w' =>
        rw [hr] at h
        cases n <;> simp only [Oper.upon] at h ⊢ <;>
          first
            | exact h
            | exact Calls.mono h (fun e w'' he => by cases e <;> first | exact he | exact False.elim he | exact letsOut_cont he)
            | exact Rows.mono h (fun _ _ he => he)
    · exact .inr ⟨ha, letsOut_cont hl⟩
  · rw [if_neg hw] at h' ⊢
    exact h'

def Region.stillOrd (md : Region.Mode) (ops : Array Oper) (T : List Nat) : List Nat → Array Bool → Bool
  | [], _ => true
  | i :: is, listed => (Region.ready md ops listed).contains i && Region.free md ops listed i && (match ops[i]? with | some o => o.calmB | none => false) && T.all (fun t => Region.ancB md ops i ops.size t) && Region.stillOrd md ops T is (listed.setIfInBounds i true)
/-- still operations, then one that comes up alone, and so on; then still ones, then T in one forced order -/
def Region.segB (md : Region.Mode) (ops : Array Oper) (last T : List Nat) : List (List Nat × Nat) → Array Bool → Bool
  | [], listed => Region.stillOrd md ops T last listed && Region.seqOrd md ops T (listAll last listed)
  | (is, i) :: ss, listed => Region.stillOrd md ops T is listed && decide (Region.ready md ops (listAll is listed) = [i]) && !T.contains i && Region.segB md ops last T ss ((listAll is listed).setIfInBounds i true)
def segLen (last T : List Nat) : List (List Nat × Nat) → Nat
  | [] => last.length + T.length
  | (is, _) :: ss => is.length + (segLen last T ss + 1)
def inSegB (n : Nat) (is : List Nat) : Bool := is.all fun i => Nat.blt i n
def segInB (n : Nat) (last T : List Nat) : List (List Nat × Nat) → Bool
  | [] => inSegB n last && inSegB n T
  | (is, i) :: ss => inSegB n is && Nat.blt i n && segInB n last T ss

theorem closed_still {T : List Nat} : ∀ (is : List Nat) (listed : Array Bool), ClosedL md ops listed → Region.stillOrd md ops T is listed = true → ClosedL md ops (listAll is listed)
  | [], _, h, _ => h
  | i :: is, listed, h, hB => by
    simp only [Region.stillOrd, Bool.and_eq_true] at hB
    exact closed_still is (listed.setIfInBounds i true) (h.set (by simpa using hB.1.1.1.1)) hB.2

theorem wpAnyM_still {T : List Nat} {g : Nat} (hs : Region.noSelect ops = true) (hQ : ∀ c a w, ¬ Q (.panic c) a w) (w : World) (hD : D w) : ∀ (is : List Nat) (lo : List Oper) (listed : Array Bool) (a : Act), lo.map some = is.map (fun i => ops[i]?) →
    ClosedL md ops listed → Region.stillOrd md ops T is listed = true → wpQuiet P ops D (fun a' => wpAnyM P md ops D T Q g (listAll is listed) a' w) lo a → wpAnyM P md ops D T Q (is.length + g) listed a w
  | [], lo, listed, a, hl, _, _, h => by
    obtain rfl : lo = [] := by simpa using hl
    have h : wpAnyM P md ops D T Q g (listAll [] listed) a w := h
    simpa [listAll] using h
  | i :: is, lo, listed, a, hl, hcl, hB, h => by
    cases lo with
    | nil => simp at hl
    | cons o lo =>
      simp only [List.map_cons, List.cons.injEq] at hl
      obtain ⟨h0, hl⟩ := hl
      simp only [Region.stillOrd, Bool.and_eq_true] at hB
      obtain ⟨⟨⟨⟨hr, hf⟩, hp⟩, hT⟩, hB⟩ := hB
      rw [← h0] at hp
      obtain ⟨v, hy, hK⟩ := wpQuiet_cons h
      have hr' : i ∈ Region.ready md ops listed := by simpa using hr
      have ih := wpAnyM_still hs hQ w hD is lo (listed.setIfInBounds i true) (a.put o.dst v) hl (hcl.set hr') hB hK
      rw [show (i :: is).length + g = (is.length + g) + 1 by simp; omega]
      exact wpAnyM_first h0.symm (Region.noSelect_spec hs) hQ (fun t ht => List.all_eq_true.1 hT t ht) _ listed a w hcl (Region.free_spec h0.symm hf) hr' (calm_of hp hy) hD ih

theorem wpAnyM_seq {T0 : List Nat} : ∀ (ts : List Nat) (l : List Oper) (listed : Array Bool) (a : Act) (w : World), (∀ t ∈ ts, t ∈ T0) → l.map some = ts.map (fun i => ops[i]?) →
    Region.seqOrd md ops ts listed = true → wpList P ops Q l a w → wpAnyM P md ops D T0 Q ts.length listed a w
  | [], l, _, _, _, _, hl, hB, h => by
    obtain rfl : l = [] := by simpa using hl
    exact ⟨by simpa [Region.seqOrd] using hB, h⟩
  | t :: ts, l, listed, a, w, hm, hl, hB, h => by
    cases l with
    | nil => simp at hl
    | cons o l =>
      simp only [List.map_cons, List.cons.injEq] at hl
      obtain ⟨h0, hl⟩ := hl
      simp only [Region.seqOrd, Bool.and_eq_true, decide_eq_true_eq] at hB
      refine ⟨fun h1 => (by rw [hB.1] at h1; cases h1), fun i hi => ?_⟩
      rw [hB.1] at hi
      obtain rfl : i = t := by simpa using hi
      have hw : wpOp P ops Q i (wpList P ops Q l) a w := by unfold wpOp; simp only [← h0]; exact h
      exact wpOp_mono (fun a' w' h' => ⟨fun hn => absurd (hm i (by simp)) hn, wpAnyM_seq ts l _ a' w' (fun t ht => hm t (by simp [ht])) hl hB.2 h'⟩) hw

/-- the walk along the segments -/
def wpSeg (P : Program) (l : List Oper) (D : World → Prop) (Q : Exit → Act → World → Prop) (last T : List Nat) : List (List Nat × Nat) → Act → World → Prop
  | [], a, w => wpQuiet P l.toArray D (fun a' => wpList P l.toArray (noPanic Q) (pickL l T) a' w) (pickL l last) a
  | (is, i) :: ss, a, w => wpQuiet P l.toArray D (fun a' => wpList P l.toArray (contQ Q fun a2 w2 => D w2 ∧ wpSeg P l D Q last T ss a2 w2) (pickL l [i]) a' w) (pickL l is) a
theorem wpSeg_cons {l : List Oper} {last T is : List Nat} {i : Nat} {ss : List (List Nat × Nat)} {a : Act} {w : World}
    (h : wpQuiet P l.toArray D (fun a' => wpList P l.toArray (contQ Q fun a2 w2 => D w2 ∧ wpSeg P l D Q last T ss a2 w2) (pickL l [i]) a' w) (pickL l is) a) : wpSeg P l D Q last T ((is, i) :: ss) a w := h
theorem wpSeg_nil {l : List Oper} {last T : List Nat} {a : Act} {w : World}
    (h : wpQuiet P l.toArray D (fun a' => wpList P l.toArray (noPanic Q) (pickL l T) a' w) (pickL l last) a) : wpSeg P l D Q last T [] a w := h

theorem wpAnyM_seg {l : List Oper} {last T : List Nat} (hs : Region.noSelect l.toArray = true) : ∀ (ss : List (List Nat × Nat)) (listed : Array Bool) (a : Act) (w : World), segInB l.length last T ss = true → ClosedL md l.toArray listed →
    Region.segB md l.toArray last T ss listed = true → D w → wpSeg P l D Q last T ss a w → wpAnyM P md l.toArray D T (noPanic Q) (segLen last T ss) listed a w
  | [], listed, a, w, hin, hcl, hB, hD, h => by
    simp only [segInB, inSegB, Bool.and_eq_true] at hin
    simp only [Region.segB, Bool.and_eq_true] at hB
    have q1 := pickL_map (l := l) last hin.1
    have q2 := pickL_map (l := l) T hin.2
    exact wpAnyM_still hs (fun c a w h => h) w hD last _ listed a q1 hcl hB.1 (wpQuiet_mono (fun a' h' => wpAnyM_seq T _ _ a' w (fun t ht => ht) q2 hB.2 h') _ _ h)
  | (is, i) :: ss, listed, a, w, hin, hcl, hB, hD, h => by
    simp only [segInB, inSegB, Bool.and_eq_true] at hin
    simp only [Region.segB, Bool.and_eq_true, decide_eq_true_eq] at hB
    obtain ⟨⟨⟨hst, hr⟩, hnT⟩, hB'⟩ := hB
    have q1 := pickL_map (l := l) is hin.1.1
    have hi : i < l.length := by simpa using hin.1.2
    have e : l[i]? = some l[i] := List.getElem?_eq_getElem hi
    have hcl2 := closed_still is listed hcl hst
    refine wpAnyM_still hs (fun c a w h => h) w hD is _ listed a q1 hcl hst (wpQuiet_mono (fun a' h' => ?_) _ _ h)
    simp only [pickL, e] at h'
    refine ⟨fun h1 => (by rw [hr] at h1; cases h1), fun j hj => ?_⟩
    rw [hr] at hj
    obtain rfl : j = i := by simpa using hj
    have hm := wpOp_post (Q := Q) (show l.toArray[j]? = some l[j] by simp) h'
    exact wpOp_mono (fun a2 w2 ⟨hD2, h2⟩ => ⟨fun _ => hD2, wpAnyM_seg hs ss _ a2 w2 hin.2 (hcl2.set (by rw [hr]; simp)) hB' hD2 h2⟩) hm

/-- **A region that draws its order**, of still operations and of such as change memory and come one after the other. -/
theorem wp_region_steps {id : Nat} {a : Act} {w : World} {l : List Oper} (D : World → Prop) (ss : List (List Nat × Nat)) (last T : List Nat) (hm : P.follows .mixedOrders = true)
    (hB : (Region.noSelect l.toArray && segInB l.length last T ss && decide (segLen last T ss = l.length) && Region.segB .any l.toArray last T ss (Array.replicate l.length false)) = true)
    (h : ∀ w', (∃ x, w' = gw w x) → D w' ∧ wpSeg P l D Q last T ss a w') : (Code.region id l.toArray true).wp P Q a w := by
  simp only [Bool.and_eq_true, decide_eq_true_eq] at hB
  obtain ⟨⟨⟨hs, hin⟩, hlen⟩, hB⟩ := hB
  refine Code.wp_mono (Q := noPanic Q) (fun e a w hq => by cases e <;> first | exact hq | exact False.elim hq) ?_
  refine wp_region_any hm ?_
  obtain ⟨hD, h2⟩ := h { w with drawn := w.drawn + 1 } ⟨⟨#[], w.drawn + 1⟩, by simp [gw]⟩
  have hcl : ClosedL .any l.toArray (Array.replicate l.length false) := ⟨by simp, fun j oj _ hl => (by rw [getD_replicate_false] at hl; cases hl)⟩
  have H := wpAnyM_seg (md := .any) hs ss _ a _ hin hcl hB hD h2
  rw [hlen] at H
  have := wpAny_of_M _ _ _ _ H
  simpa using this
end
end Go

namespace Go
open Go.RowKit

/-- still operations, then one that comes up alone, or one of two; at the end still ones -/
inductive Plan where
  | last (is : List Nat)
  | step (is : List Nat) (i : Nat) (p : Plan)
  | fork (is : List Nat) (i f : Nat) (p q : Plan)
def Plan.len : Plan → Nat
  | .last is => is.length
  | .step is _ p => is.length + (p.len + 1)
  | .fork is _ _ p _ => is.length + (p.len + 1)
def Plan.inB (n : Nat) : Plan → Bool
  | .last is => inSegB n is
  | .step is i p => inSegB n is && Nat.blt i n && p.inB n
  | .fork is i f p q => inSegB n is && Nat.blt i n && Nat.blt f n && p.inB n && q.inB n
def Plan.okB (md : Region.Mode) (ops : Array Oper) : Plan → Array Bool → Bool
  | .last is, listed => Region.stillOrd md ops [] is listed && Region.seqOrd md ops [] (listAll is listed)
  | .step is i p, listed => Region.stillOrd md ops [] is listed && decide (Region.ready md ops (listAll is listed) = [i]) && p.okB md ops ((listAll is listed).setIfInBounds i true)
  | .fork is i f p q, listed => Region.stillOrd md ops [] is listed && (decide (Region.ready md ops (listAll is listed) = [i, f]) || decide (Region.ready md ops (listAll is listed) = [f, i])) && decide (p.len = q.len) && p.okB md ops ((listAll is listed).setIfInBounds i true) && q.okB md ops ((listAll is listed).setIfInBounds f true)

section
variable {P : Program} {md : Region.Mode} {D : World → Prop} {Q : Exit → Act → World → Prop}

def wpPlan (P : Program) (l : List Oper) (D : World → Prop) (Q : Exit → Act → World → Prop) : Plan → Act → World → Prop
  | .last is, a, w => wpQuiet P l.toArray D (fun a' => wpList P l.toArray (noPanic Q) [] a' w) (pickL l is) a
  | .step is i p, a, w => wpQuiet P l.toArray D (fun a' => wpList P l.toArray (contQ Q fun a2 w2 => D w2 ∧ wpPlan P l D Q p a2 w2) (pickL l [i]) a' w) (pickL l is) a
  | .fork is i f p q, a, w => wpQuiet P l.toArray D (fun a' => wpList P l.toArray (contQ Q fun a2 w2 => D w2 ∧ wpPlan P l D Q p a2 w2) (pickL l [i]) a' w ∧ wpList P l.toArray (contQ Q fun a2 w2 => D w2 ∧ wpPlan P l D Q q a2 w2) (pickL l [f]) a' w) (pickL l is) a
theorem wpPlan_last {l : List Oper} {is : List Nat} {a : Act} {w : World} (h : wpQuiet P l.toArray D (fun a' => wpList P l.toArray (noPanic Q) [] a' w) (pickL l is) a) : wpPlan P l D Q (.last is) a w := h
theorem wpPlan_step {l : List Oper} {is : List Nat} {i : Nat} {p : Plan} {a : Act} {w : World}
    (h : wpQuiet P l.toArray D (fun a' => wpList P l.toArray (contQ Q fun a2 w2 => D w2 ∧ wpPlan P l D Q p a2 w2) (pickL l [i]) a' w) (pickL l is) a) : wpPlan P l D Q (.step is i p) a w := h
theorem wpPlan_fork {l : List Oper} {is : List Nat} {i f : Nat} {p q : Plan} {a : Act} {w : World}
    (h : wpQuiet P l.toArray D (fun a' => wpList P l.toArray (contQ Q fun a2 w2 => D w2 ∧ wpPlan P l D Q p a2 w2) (pickL l [i]) a' w ∧ wpList P l.toArray (contQ Q fun a2 w2 => D w2 ∧ wpPlan P l D Q q a2 w2) (pickL l [f]) a' w) (pickL l is) a) : wpPlan P l D Q (.fork is i f p q) a w := h
theorem contQ_now {K : Act → World → Prop} {a : Act} {w : World} (h : K a w) : contQ Q K .normal a w := h

theorem wpAnyM_plan {l : List Oper} (hs : Region.noSelect l.toArray = true) : ∀ (p : Plan) (listed : Array Bool) (a : Act) (w : World), p.inB l.length = true → ClosedL md l.toArray listed →
    p.okB md l.toArray listed = true → D w → wpPlan P l D Q p a w → wpAnyM P md l.toArray D [] (noPanic Q) p.len listed a w
  | .last is, listed, a, w, hin, hcl, hB, hD, h => by
    simp only [Plan.okB, Bool.and_eq_true] at hB
    have q1 := pickL_map (l := l) is hin
    exact wpAnyM_still hs (fun c a w h => h) w hD is _ listed a q1 hcl hB.1 (wpQuiet_mono (fun a' h' => wpAnyM_seq [] [] _ a' w (fun t ht => ht) rfl hB.2 h') _ _ h)
  | .step is i p, listed, a, w, hin, hcl, hB, hD, h => by
    simp only [Plan.inB, Bool.and_eq_true] at hin
    simp only [Plan.okB, Bool.and_eq_true, decide_eq_true_eq] at hB
    obtain ⟨⟨hst, hr⟩, hB'⟩ := hB
    have q1 := pickL_map (l := l) is hin.1.1
    have hi : i < l.length := by simpa using hin.1.2
    have e : l[i]? = some l[i] := List.getElem?_eq_getElem hi
    have hcl2 := closed_still is listed hcl hst
    refine wpAnyM_still hs (fun c a w h => h) w hD is _ listed a q1 hcl hst (wpQuiet_mono (fun a' h' => ?_) _ _ h)
    simp only [pickL, e] at h'
    refine ⟨fun h1 => (by rw [hr] at h1; cases h1), fun j hj => ?_⟩
    rw [hr] at hj
    obtain rfl : j = i := by simpa using hj
    have hm := wpOp_post (Q := Q) (show l.toArray[j]? = some l[j] by simp) h'
    exact wpOp_mono (fun a2 w2 ⟨hD2, h2⟩ => ⟨fun _ => hD2, wpAnyM_plan hs p _ a2 w2 hin.2 (hcl2.set (by rw [hr]; simp)) hB' hD2 h2⟩) hm
  | .fork is i f p q, listed, a, w, hin, hcl, hB, hD, h => by
    simp only [Plan.inB, Bool.and_eq_true] at hin
    simp only [Plan.okB, Bool.and_eq_true, Bool.or_eq_true, decide_eq_true_eq] at hB
    obtain ⟨⟨⟨⟨hst, hr⟩, hlen⟩, hp⟩, hq⟩ := hB
    obtain ⟨⟨⟨⟨hin1, hin2⟩, hin3⟩, hin4⟩, hin5⟩ := hin
    have q1 := pickL_map (l := l) is hin1
    have hi : i < l.length := by simpa using hin2
    have hf : f < l.length := by simpa using hin3
    have e : l[i]? = some l[i] := List.getElem?_eq_getElem hi
    have e2 : l[f]? = some l[f] := List.getElem?_eq_getElem hf
    have hcl2 := closed_still is listed hcl hst
    have hri : i ∈ Region.ready md l.toArray (listAll is listed) := by rcases hr with h | h <;> rw [h] <;> simp
    have hrf : f ∈ Region.ready md l.toArray (listAll is listed) := by rcases hr with h | h <;> rw [h] <;> simp
    refine wpAnyM_still hs (fun c a w h => h) w hD is _ listed a q1 hcl hst (wpQuiet_mono (fun a' h' => ?_) _ _ h)
    simp only [pickL, e, e2] at h'
    refine ⟨fun h1 => (by rw [h1] at hri; cases hri), fun j hj => ?_⟩
    have hj2 : j = i ∨ j = f := by rcases hr with h | h <;> (rw [h] at hj; simp at hj; omega)
    rcases hj2 with rfl | rfl
    · have hm := wpOp_post (Q := Q) (show l.toArray[j]? = some l[j] by simp) h'.1
      exact wpOp_mono (fun a2 w2 ⟨hD2, h2⟩ => ⟨fun _ => hD2, wpAnyM_plan hs p _ a2 w2 hin4 (hcl2.set hri) hp hD2 h2⟩) hm
    · have hm := wpOp_post (Q := Q) (show l.toArray[j]? = some l[j] by simp) h'.2
      refine wpOp_mono (fun a2 w2 ⟨hD2, h2⟩ => ⟨fun _ => hD2, ?_⟩) hm
      have := wpAnyM_plan hs q _ a2 w2 hin5 (hcl2.set hrf) hq hD2 h2
      rw [← hlen] at this
      exact this

/-- **A region that draws its order**, by a plan. -/
theorem wp_region_plan {id : Nat} {a : Act} {w : World} {l : List Oper} (D : World → Prop) (p : Plan) (hm : P.follows .mixedOrders = true)
    (hB : (Region.noSelect l.toArray && p.inB l.length && decide (p.len = l.length) && p.okB .any l.toArray (Array.replicate l.length false)) = true)
    (h : ∀ w', (∃ x, w' = gw w x) → D w' ∧ wpPlan P l D Q p a w') : (Code.region id l.toArray true).wp P Q a w := by
  simp only [Bool.and_eq_true, decide_eq_true_eq] at hB
  obtain ⟨⟨⟨hs, hin⟩, hlen⟩, hB⟩ := hB
  refine Code.wp_mono (Q := noPanic Q) (fun e a w hq => by cases e <;> first | exact hq | exact False.elim hq) ?_
  refine wp_region_any hm ?_
  obtain ⟨hD, h2⟩ := h { w with drawn := w.drawn + 1 } ⟨⟨#[], w.drawn + 1⟩, by simp [gw]⟩
  have hcl : ClosedL .any l.toArray (Array.replicate l.length false) := ⟨by simp, fun j oj _ hl => (by rw [getD_replicate_false] at hl; cases hl)⟩
  have H := wpAnyM_plan (md := .any) hs p _ a _ hin hcl hB hD h2
  rw [hlen] at H
  have := wpAny_of_M _ _ _ _ H
  simpa using this
end
end Go

namespace Go
open Go.RowKit

section
variable {P : Program} {md : Region.Mode} {D : World → Prop} {Q : Exit → Act → World → Prop}

theorem put_same {a : Act} {d : Nat} {u : Value} (h : a.tmps[d]? = some u) : a.put (some d) u = a := by
  cases a with
  | mk t ds =>
    have e : t.setIfInBounds d u = t := by
      apply Array.ext_getElem?
      intro i
      rw [Array.getElem?_setIfInBounds]
      split
      · rename_i hi; subst hi
        split
        · exact h.symm
        · rename_i hs
          have h : t[d]? = some u := h
          rw [Array.getElem?_eq_none (by omega)] at h; cases h
      · rfl
    show (⟨t.setIfInBounds d u, ds⟩ : Act) = ⟨t, ds⟩
    rw [e]

/-- the operations ss, one after the other: behind each one slot d may hold anything, the world may have grown -/
def wpChain (P : Program) (l : List Oper) (D : World → Prop) (Q : Exit → Act → World → Prop) (d g : Nat) (ob : Obj) (n0 : Nat) (p1 p2 : Plan) : List Nat → Value → Act → World → Prop
  | [], u, a, w => wpPlan P l D Q p1 a w ∧ ∀ B, u = .pointer (some ⟨B, 0, none⟩) → w.heap[B]? = some ob → n0 ≤ B → wpPlan P l D Q p2 a w
  | i :: ss, u, a, w => wpList P l.toArray (contQ Q fun a2 w2 => a2.tmps[d]? = some u ∧ w.grownBy w2 (some g) ∧ ∀ u3 w3, Below w2.heap.size w2 w3 → D w3 ∧ wpChain P l D Q d g ob n0 p1 p2 ss u3 (a2.put (some d) u3) w3) (pickL l [i]) a w
theorem wpChain_cons {l : List Oper} {d g : Nat} {ob : Obj} {n0 : Nat} {p1 p2 : Plan} {i : Nat} {ss : List Nat} {u : Value} {a : Act} {w : World}
    (h : wpList P l.toArray (contQ Q fun a2 w2 => a2.tmps[d]? = some u ∧ w.grownBy w2 (some g) ∧ ∀ u3 w3, Below w2.heap.size w2 w3 → D w3 ∧ wpChain P l D Q d g ob n0 p1 p2 ss u3 (a2.put (some d) u3) w3) (pickL l [i]) a w) : wpChain P l D Q d g ob n0 p1 p2 (i :: ss) u a w := h
theorem wpChain_nil {l : List Oper} {d g : Nat} {ob : Obj} {n0 : Nat} {p1 p2 : Plan} {u : Value} {a : Act} {w : World}
    (h1 : wpPlan P l D Q p1 a w) (h2 : ∀ B, u = .pointer (some ⟨B, 0, none⟩) → w.heap[B]? = some ob → n0 ≤ B → wpPlan P l D Q p2 a w) : wpChain P l D Q d g ob n0 p1 p2 [] u a w := ⟨h1, h2⟩

def chainB (md : Region.Mode) (ops : Array Oper) (n f : Nat) (p1 p2 : Plan) : List Nat → Array Bool → Bool
  | [], L => p1.okB md ops L && p2.okB md ops (L.setIfInBounds f true) && p1.inB n && p2.inB n
  | i :: ss, L => (decide (Region.ready md ops L = [i, f]) || decide (Region.ready md ops L = [f, i])) && decide (Region.ready md ops (L.setIfInBounds f true) = [i]) && !(i == f) && Nat.blt i n && chainB md ops n f p1 p2 ss (L.setIfInBounds i true)

theorem chain_done {l : List Oper} (hs : Region.noSelect l.toArray = true) {f d g n0 B : Nat} {ob : Obj} {p1 p2 : Plan} (hg : g < n0) (hB : n0 ≤ B) : ∀ (ss : List Nat) (L : Array Bool) (a : Act) (w : World),
    chainB md l.toArray l.length f p1 p2 ss L = true → ClosedL md l.toArray (L.setIfInBounds f true) → a.tmps[d]? = some (.pointer (some ⟨B, 0, none⟩)) → w.heap[B]? = some ob → D w →
    wpChain P l D Q d g ob n0 p1 p2 ss (.pointer (some ⟨B, 0, none⟩)) a w → wpAnyM P md l.toArray D [] (noPanic Q) (ss.length + p2.len) (L.setIfInBounds f true) a w
  | [], L, a, w, hc, hcl, hu, hb, hD, h => by
    simp only [chainB, Bool.and_eq_true] at hc
    rw [List.length_nil, Nat.zero_add]
    exact wpAnyM_plan hs p2 _ a w hc.2 hcl hc.1.1.2 hD (h.2 B rfl hb hB)
  | i :: ss, L, a, w, hc, hcl, hu, hb, hD, h => by
    simp only [chainB, Bool.and_eq_true, decide_eq_true_eq, Bool.not_eq_true', beq_eq_false_iff_ne] at hc
    obtain ⟨⟨⟨⟨_, hr⟩, hne⟩, hi⟩, hc'⟩ := hc
    have hi : i < l.length := by simpa using hi
    have e : l[i]? = some l[i] := List.getElem?_eq_getElem hi
    have h' : wpList P l.toArray (contQ Q fun a2 w2 => a2.tmps[d]? = some (.pointer (some ⟨B, 0, none⟩)) ∧ w.grownBy w2 (some g) ∧ ∀ u3 w3, Below w2.heap.size w2 w3 → D w3 ∧ wpChain P l D Q d g ob n0 p1 p2 ss u3 (a2.put (some d) u3) w3) (pickL l [i]) a w := h
    simp only [pickL, e] at h'
    have hm := wpOp_post (Q := Q) (show l.toArray[i]? = some l[i] by simp) h'
    rw [show (i :: ss).length + p2.len = (ss.length + p2.len) + 1 by simp; omega]
    refine ⟨fun h1 => (by rw [hr] at h1; cases h1), fun j hj => ?_⟩
    rw [hr] at hj
    obtain rfl : j = i := by simpa using hj
    refine wpOp_mono (fun a2 w2 ⟨hu2, hg2, H2⟩ => ⟨fun _ => (H2 (.pointer (some ⟨B, 0, none⟩)) w2 (Below.refl _ _)).1, ?_⟩) hm
    have hk := (H2 (.pointer (some ⟨B, 0, none⟩)) w2 (Below.refl _ _))
    rw [put_same hu2] at hk
    rw [Array.setIfInBounds_comm _ _ (Ne.symm hne)]
    exact chain_done hs hg hB ss (L.setIfInBounds j true) a2 w2 hc' (by rw [Array.setIfInBounds_comm _ _ hne]; exact hcl.set (by rw [hr]; simp)) hu2 ((hg2.block B (Array.getElem?_eq_some_iff.1 hb).1 (by simp; omega)).trans hb) hk.1 hk.2

theorem wpOp_alloc {l : List Oper} {f d : Nat} {T ty : TypeId} {ps : String} {af : Array Edge} {old : Array Value} {n : Nat} {K : Act → World → Prop} {Q' : Exit → Act → World → Prop} {a : Act} {w : World}
    (hf : l[f]? = some ⟨some d, .alloc T, ty, ps, af, none⟩) (hz : (P.info? T).map (fun i => (i.zero, i.size)) = some (some (.agg old), n)) (hs : old.size = n)
    (h : K (a.put (some d) (.pointer (some ⟨w.heap.size, 0, none⟩))) (w.alloc (.cells old T))) : wpOp P l.toArray Q' f K a w := by
  have hf' : l.toArray[f]? = some ⟨some d, .alloc T, ty, ps, af, none⟩ := by simpa using hf
  unfold wpOp
  simp only [hf']
  rw [if_pos (by simp [Region.wanted])]
  refine .inl ?_
  have hrun : (execOp a.eval ⟨some d, .alloc T, ty, ps, af, none⟩).run P w = .ok (.value (.pointer (some ⟨w.heap.size, 0, none⟩))) (w.alloc (.cells old T)) := by
    simp only [execOp]
    rw [Sem.run_bind]
    simp [alloc_row hz hs w, Result.andThen]
  simp only [Oper.wp, hrun, Oper.upon]
  exact h

theorem chain_open {l : List Oper} (hs : Region.noSelect l.toArray = true) {f d g n0 : Nat} {p1 p2 : Plan} {T ty : TypeId} {ps : String} {af : Array Edge} {old : Array Value} {n : Nat}
    (hf : l[f]? = some ⟨some d, .alloc T, ty, ps, af, none⟩) (hz : (P.info? T).map (fun i => (i.zero, i.size)) = some (some (.agg old), n)) (hso : old.size = n) (hlen : p1.len = p2.len + 1) (hg : g < n0) : ∀ (ss : List Nat) (L : Array Bool) (a : Act) (w : World) (u : Value),
    chainB md l.toArray l.length f p1 p2 ss L = true → ClosedL md l.toArray L → a.tmps[d]? = some u → n0 ≤ w.heap.size →
    (∀ u3 w3, Below w.heap.size w w3 → D w3 ∧ wpChain P l D Q d g (.cells old T) n0 p1 p2 ss u3 (a.put (some d) u3) w3) → wpAnyM P md l.toArray D [] (noPanic Q) (ss.length + p1.len) L a w
  | [], L, a, w, u, hc, hcl, hu, hn, H => by
    simp only [chainB, Bool.and_eq_true] at hc
    have hk := H u w (Below.refl _ _)
    rw [put_same hu] at hk
    rw [List.length_nil, Nat.zero_add]
    exact wpAnyM_plan hs p1 _ a w hc.1.2 hcl hc.1.1.1 hk.1 hk.2.1
  | i :: ss, L, a, w, u, hc, hcl, hu, hn, H => by
    have hc0 := hc
    simp only [chainB, Bool.and_eq_true, Bool.or_eq_true, decide_eq_true_eq, Bool.not_eq_true', beq_eq_false_iff_ne] at hc
    obtain ⟨⟨⟨⟨hr, _⟩, hne⟩, hi⟩, hc'⟩ := hc
    have hi : i < l.length := by simpa using hi
    have e : l[i]? = some l[i] := List.getElem?_eq_getElem hi
    have hri : i ∈ Region.ready md l.toArray L := by rcases hr with h | h <;> rw [h] <;> simp
    have hrf : f ∈ Region.ready md l.toArray L := by rcases hr with h | h <;> rw [h] <;> simp
    rw [show (i :: ss).length + p1.len = (ss.length + p1.len) + 1 by simp; omega]
    refine ⟨fun h1 => (by rw [h1] at hri; cases hri), fun j hj => ?_⟩
    have hj2 : j = i ∨ j = f := by rcases hr with h | h <;> (rw [h] at hj; simp at hj; omega)
    rcases hj2 with rfl | rfl
    · have hk := (H u w (Below.refl _ _)).2
      rw [put_same hu] at hk
      have h' : wpList P l.toArray (contQ Q fun a2 w2 => a2.tmps[d]? = some u ∧ w.grownBy w2 (some g) ∧ ∀ u3 w3, Below w2.heap.size w2 w3 → D w3 ∧ wpChain P l D Q d g (.cells old T) n0 p1 p2 ss u3 (a2.put (some d) u3) w3) (pickL l [j]) a w := hk
      simp only [pickL, e] at h'
      have hm := wpOp_post (Q := Q) (show l.toArray[j]? = some l[j] by simp) h'
      exact wpOp_mono (fun a2 w2 ⟨hu2, hg2, H2⟩ => ⟨fun _ => (H2 u w2 (Below.refl _ _)).1, chain_open hs hf hz hso hlen hg ss (L.setIfInBounds j true) a2 w2 u hc' (hcl.set hri) hu2 (Nat.le_trans hn hg2.size) H2⟩) hm
    · have hk := H (.pointer (some ⟨w.heap.size, 0, none⟩)) (w.alloc (.cells old T)) ((Below.refl _ _).alloc (Nat.le_refl _) _)
      refine wpOp_alloc hf hz hso ⟨fun _ => hk.1, ?_⟩
      rw [show ss.length + p1.len = (i :: ss).length + p2.len by simp; omega]
      have hlt : d < a.tmps.size := (Array.getElem?_eq_some_iff.1 hu).1
      exact chain_done hs hg hn (i :: ss) L _ _ hc0 (hcl.set hrf) (by rw [put_get, if_pos rfl, if_pos hlt]) (World.alloc_heap_new w _) hk.1 hk.2

/-- **A region that draws its order**: still operations, then ss one after the other and the alloc f anywhere between them, then what the plans say. -/
theorem wp_region_chain {id : Nat} {a : Act} {w : World} {l : List Oper} (D : World → Prop) (is ss : List Nat) (f d g n0 : Nat) (p1 p2 : Plan) {T ty : TypeId} {ps : String} {af : Array Edge} {old : Array Value} {n : Nat}
    (hm : P.follows .mixedOrders = true) (hf : l[f]? = some ⟨some d, .alloc T, ty, ps, af, none⟩) (hz : (P.info? T).map (fun i => (i.zero, i.size)) = some (some (.agg old), n)) (hso : old.size = n) (hg : g < n0) (hn : n0 ≤ w.heap.size)
    (hB : (Region.noSelect l.toArray && inSegB l.length is && decide (is.length + (ss.length + p1.len) = l.length) && decide (p1.len = p2.len + 1) && Region.stillOrd .any l.toArray [] is (Array.replicate l.length false) && chainB .any l.toArray l.length f p1 p2 ss (listAll is (Array.replicate l.length false))) = true)
    (h : ∀ w', (∃ x, w' = gw w x) → D w' ∧ wpQuiet P l.toArray D (fun a' => ∃ u0, a'.tmps[d]? = some u0 ∧ ∀ u w3, Below w'.heap.size w' w3 → D w3 ∧ wpChain P l D Q d g (.cells old T) n0 p1 p2 ss u (a'.put (some d) u) w3) (pickL l is) a) : (Code.region id l.toArray true).wp P Q a w := by
  simp only [Bool.and_eq_true, decide_eq_true_eq] at hB
  obtain ⟨⟨⟨⟨⟨hs, hin⟩, hlen⟩, hpl⟩, hst⟩, hc⟩ := hB
  refine Code.wp_mono (Q := noPanic Q) (fun e a w hq => by cases e <;> first | exact hq | exact False.elim hq) ?_
  refine wp_region_any hm ?_
  obtain ⟨hD, h2⟩ := h { w with drawn := w.drawn + 1 } ⟨⟨#[], w.drawn + 1⟩, by simp [gw]⟩
  have hcl : ClosedL .any l.toArray (Array.replicate l.length false) := ⟨by simp, fun j oj _ hl => (by rw [getD_replicate_false] at hl; cases hl)⟩
  have q1 := pickL_map (l := l) is hin
  have hcl2 := closed_still is _ hcl hst
  have H := wpAnyM_still (md := .any) (T := []) (g := ss.length + p1.len) hs (fun c a w h => h) _ hD is _ _ a q1 hcl hst
    (wpQuiet_mono (fun a' ⟨u0, hu0, h'⟩ => chain_open hs hf hz hso hpl hg ss _ a' _ u0 hc hcl2 hu0 hn h') _ _ h2)
  rw [hlen] at H
  have := wpAny_of_M _ _ _ _ H
  simpa using this
end
end Go
