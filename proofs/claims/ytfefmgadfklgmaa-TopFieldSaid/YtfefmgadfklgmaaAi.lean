/- A law for regions that draw their order: operations that leave what there was, one that makes memory, then operations that wait for all of them. No conditions beyond each theorem's own. -/
import Derived.Test.YtfefmgadfklgmaaAg
set_option linter.unusedVariables false
set_option linter.unusedSimpArgs false
set_option linter.unusedSectionVars false
set_option linter.constructorNameAsVariable false
namespace Go
open Go.RowKit

section
variable {P : Program} {ops : Array Oper} {md : Region.Mode} {D C : World → Prop} {Q : Exit → Act → World → Prop}

/-- an operation that calls nothing and leaves each world as it is -/
def Oper.stillB (o : Oper) : Bool :=
  match o.op with
  | .move _ | .assign _ | .fieldAddr _ _ _ | .nilCheck _ | .load _ _ => true
  | _ => false

theorem still_value {o : Oper} (h : o.stillB = true) {ρ : Operand → Value} {w w' : World} {n : Next} (hr : (execOp ρ o).run P w = .ok n w') : ∃ v, n = .value v := by
  by_cases hp : o.pureB = true
  · exact pure_value hp hr
  · obtain ⟨dst, op, type, pos, after, guard⟩ := o
    cases op <;> simp only [Oper.stillB, Oper.pureB, Bool.false_eq_true, not_true_eq_false] at h hp <;> simp only [execOp] at hr
    case load t x =>
      rw [Sem.run_bind] at hr
      cases h2 : (Instr.loadAt t (ρ x)).run P w with
      | ok v w1 => rw [h2] at hr; simp [Result.andThen] at hr; exact ⟨_, hr.1.symm⟩
      | halt e w1 => rw [h2] at hr; simp [Result.andThen] at hr

/-- in every world of the class the operation leaves this value, and the world as it is -/
def StillIn (P : Program) (ops : Array Oper) (D : World → Prop) (o : Oper) (v : Value) (a : Act) : Prop :=
  (Region.wanted o (yielded ops a.tmps) = true ∧ ∀ w, D w → (execOp a.eval o).run P w = .ok (.value v) w) ∨
  (Region.wanted o (yielded ops a.tmps) = false ∧ v = undef)

theorem still_of {o : Oper} {v : Value} {a : Act} (h : o.stillB = true) (hy : YieldsIn P ops D o v a) : StillIn P ops D o v a := by
  rcases hy with ⟨h1, h2⟩ | h1
  · refine .inl ⟨h1, fun w hw => ?_⟩
    have := h2 w hw
    unfold Oper.quietAt at this
    cases hr : (execOp a.eval o).run P w with
    | halt e w1 => rw [hr] at this; simp [Oper.quietUpon] at this
    | ok n w1 =>
      obtain ⟨u, rfl⟩ := still_value h hr
      rw [hr] at this
      simp only [Oper.quietUpon] at this
      rw [this.1, this.2]
  · exact .inr h1

theorem StillIn.of_same {o : Oper} {v : Value} {a a' : Act} (hy : StillIn P ops D o v a) (he : execOp a'.eval o = execOp a.eval o)
    (hw : Region.wanted o (yielded ops a'.tmps) = Region.wanted o (yielded ops a.tmps)) : StillIn P ops D o v a' := by
  unfold StillIn at *
  rw [he, hw]
  exact hy

theorem StillIn.wpOp {i : Nat} {o : Oper} {v : Value} {a : Act} (hi : ops[i]? = some o) (hy : StillIn P ops D o v a)
    {K : Act → World → Prop} {w : World} (hD : D w) (h : K (a.put o.dst v) w) : wpOp P ops Q i K a w := by
  unfold Go.wpOp
  simp only [hi]
  rcases hy with ⟨hw, hv⟩ | ⟨hw, rfl⟩
  · simp only [hw, if_true, Oper.wp, hv w hD, Oper.upon]; exact .inl h
  · simp only [hw, Bool.false_eq_true, if_false]; exact h

/-- another operation, apart from one that is still: whether the still one has come up makes no difference to it -/
theorem wpOp_still {j : Nat} {oi oj : Oper} {v : Value} (hj : ops[j]? = some oj) (hap : oi.apart ops oj = true)
    (hsi : ∀ cs b, oi.op ≠ .select cs b) (hsj : ∀ cs b, oj.op ≠ .select cs b) (hQ : ∀ c a w, ¬ Q (.panic c) a w) {K : Act → World → Prop} {a : Act} {w : World}
    (hy : StillIn P ops D oi v a) (h : wpOp P ops Q j K (a.put oi.dst v) w) : wpOp P ops Q j (fun a' w' => StillIn P ops D oi v a' ∧ K (a'.put oi.dst v) w') a w := by
  obtain ⟨h1, h2, h3⟩ := Oper.apart_spec hap
  have keep : ∀ (a : Act), StillIn P ops D oi v a → ∀ u, StillIn P ops D oi v (a.put oj.dst u) := fun a hy u => hy.of_same (execOp_put oi hsi a oj.dst u h3) (wanted_put oi a oj.dst u h3)
  have keepD : ∀ d, StillIn P ops D oi v { a with defers := d :: a.defers } := fun d => hy.of_same rfl rfl
  unfold wpOp at *
  simp only [hj] at *
  rw [wanted_put oj a oi.dst v h1] at h
  by_cases hw : Region.wanted oj (yielded ops a.tmps) = true
  · rw [if_pos hw] at h ⊢
    rcases h with h | ⟨ha, hl⟩
    · left
      unfold Oper.wp at *
      rw [execOp_put oj hsj a oi.dst v h1] at h
      cases hr : (execOp a.eval oj).run P w with
      | halt x w' => rw [hr] at h; cases x <;> simp only [Oper.upon] at h ⊢; exact absurd h (hQ _ _ _)
      | ok n w' =>
        rw [hr] at h
        cases n <;> simp only [Oper.upon] at h ⊢
        case value u => exact ⟨keep a hy u, by rw [← Act.put_comm a v u h2]; exact h⟩
        case skip => exact ⟨keep a hy _, by rw [← Act.put_comm a v undef h2]; exact h⟩
        case defer d => exact ⟨keep _ (keepD d) _, by rw [← Act.put_comm _ v undef h2, ← Act.put_defers]; exact h⟩
        case enter f args =>
          refine Calls.mono h fun e w'' he => ?_
          cases e with
          | returned u => exact ⟨keep a hy u, by rw [← Act.put_comm a v u h2]; exact he⟩
          | panicked c => exact absurd he (hQ _ _ _)
          | outgrown => exact he
        case row row args => exact Rows.mono h fun u w'' he => ⟨keep a hy u, by rw [← Act.put_comm a v u h2]; exact he⟩
    · right
      exact ⟨by unfold Oper.asks at *; rw [execOp_put oj hsj a oi.dst v h1] at ha; exact ha, hl⟩
  · rw [if_neg hw] at h ⊢
    exact ⟨keep a hy _, by rw [← Act.put_comm a v undef h2]; exact h⟩

/-- every order, each world of the class -/
def wpAnyI (P : Program) (md : Region.Mode) (ops : Array Oper) (D : World → Prop) (Q : Exit → Act → World → Prop) : Nat → Array Bool → Act → World → Prop
  | 0, listed, a, w => Region.ready md ops listed = [] ∧ Q .normal a w
  | f + 1, listed, a, w => (Region.ready md ops listed = [] → Q .normal a w) ∧ ∀ i ∈ Region.ready md ops listed, wpOp P ops Q i (fun a' w' => D w' ∧ wpAnyI P md ops D Q f (listed.setIfInBounds i true) a' w') a w

theorem wpAny_of_I : ∀ (f : Nat) (listed : Array Bool) (a : Act) (w : World), wpAnyI P md ops D Q f listed a w → wpAny P md ops Q f listed a w
  | 0, _, _, _, h => h
  | f + 1, _, _, _, h => ⟨h.1, fun i hi => wpOp_mono (fun a' w' h' => wpAny_of_I f _ a' w' h'.2) (h.2 i hi)⟩

theorem wpAnyI_of_quiet {Lq : Act → Prop} (hCD : ∀ w, C w → D w) (hQ : ∀ a w, C w → Lq a → Q .normal a w) : ∀ (f : Nat) (listed : Array Bool) (a : Act) (w : World), C w → wpAnyQ P md ops C Lq f listed a → wpAnyI P md ops D Q f listed a w
  | 0, _, _, _, hw, h => ⟨h.1, hQ _ _ hw h.2⟩
  | f + 1, _, _, _, hw, h => ⟨fun h0 => hQ _ _ hw (h.1 h0), fun i hi => wpOp_of_qOp hw (fun a' w' hw' h' => ⟨hCD _ hw', wpAnyI_of_quiet hCD hQ f _ a' w' hw' h'⟩) (h.2 i hi)⟩

/-- a still operation may be taken first -/
theorem wpAnyI_first {i : Nat} {oi : Oper} {v : Value} (hi : ops[i]? = some oi) (hsel : ∀ (j : Nat) (o : Oper) cs b, ops[j]? = some o → o.op ≠ .select cs b) (hQ : ∀ c a w, ¬ Q (.panic c) a w) :
    ∀ (f : Nat) (listed : Array Bool) (a : Act) (w : World),
      (∀ j oj, ops[j]? = some oj → j ≠ i → listed.getD j true = false → (∀ e ∈ oj.after, Region.binds md e = true → e.on ≠ i) → oi.apart ops oj = true) →
      i ∈ Region.ready md ops listed → StillIn P ops D oi v a → D w → wpAnyI P md ops D Q f (listed.setIfInBounds i true) (a.put oi.dst v) w → wpAnyI P md ops D Q (f + 1) listed a w := by
  intro f
  induction f with
  | zero =>
    intro listed a w _ hr hy hD H
    refine ⟨fun h => (by rw [h] at hr; cases hr), fun j hj => ?_⟩
    by_cases hji : j = i
    · subst hji; exact hy.wpOp hi hD ⟨hD, H⟩
    · have := ready_mono hj hji
      rw [H.1] at this
      cases this
  | succ f ih =>
    intro listed a w hfree hr hy hD H
    refine ⟨fun h => (by rw [h] at hr; cases hr), fun j hj => ?_⟩
    by_cases hji : j = i
    · subst hji; exact hy.wpOp hi hD ⟨hD, H⟩
    · have h1 := H.2 j (ready_mono hj hji)
      obtain ⟨hjun, oj, hoj, hall⟩ := mem_ready.1 hj
      have hnot : ∀ e ∈ oj.after, Region.binds md e = true → e.on ≠ i := fun e he hb heq => by
        have h1 := hall e he hb
        have h0 := (mem_ready.1 hr).1
        rw [heq, getD_both h0] at h1
        cases h1
      have h2 := wpOp_still hoj (hfree j oj hoj hji hjun hnot) (fun cs b => hsel i oi cs b hi) (fun cs b => hsel j oj cs b hoj) hQ hy h1
      have hfree' : ∀ k ok, ops[k]? = some ok → k ≠ i → (listed.setIfInBounds j true).getD k true = false →
          (∀ e ∈ ok.after, Region.binds md e = true → e.on ≠ i) → oi.apart ops ok = true := fun k ok hk hki hun hno => by
        refine hfree k ok hk hki ?_ hno
        by_cases hjk : j = k
        · subst hjk; exact hjun
        · rw [getD_set_ne true hjk] at hun; exact hun
      refine wpOp_mono (fun a' w' h3 => ⟨h3.2.1, ih (listed.setIfInBounds j true) a' w' hfree' (ready_mono hr (Ne.symm hji)) h3.1 h3.2.1 ?_⟩) h2
      rw [Array.setIfInBounds_comm _ _ hji]
      exact h3.2.2

/-- the first operations are still, and may be taken first; then n alone; then the others wait -/
def Region.leadB (md : Region.Mode) (ops : Array Oper) (g : Nat) : Nat → Nat → Array Bool → Bool
  | 0, k, listed => decide (Region.ready md ops listed = [k]) && Region.lexFrom md ops g (k + 1) (listed.setIfInBounds k true)
  | n + 1, k, listed => (Region.ready md ops listed).contains k && Region.free md ops listed k && (match ops[k]? with | some o => o.stillB | none => false) && Region.leadB md ops g n (k + 1) (listed.setIfInBounds k true)

theorem wpAnyI_lead {Lq : Act → Prop} {on : Oper} {rest : List Oper} {n : Nat} (hs : Region.noSelect ops = true) (hQ : ∀ c a w, ¬ Q (.panic c) a w) (hn : ops[n]? = some on) (hrest : ∀ j, rest[j]? = ops[n + 1 + j]?)
    (hL : ∀ a w, D w → Lq a → Region.wanted on (yielded ops a.tmps) = true ∧ on.wp P a w (fun a' w' => ∃ C : World → Prop, (∀ u, C u → D u) ∧ C w' ∧ wpQuiet P ops C (fun a3 => ∀ w3, C w3 → Q .normal a3 w3) rest a') Q) :
    ∀ (l : List Oper) (k : Nat) (listed : Array Bool) (a : Act) (w : World), (∀ j, j < l.length → l[j]? = ops[k + j]?) → k + l.length = n → Region.leadB md ops rest.length l.length k listed = true → D w →
      wpQuiet P ops D Lq l a → wpAnyI P md ops D Q (l.length + (rest.length + 1)) listed a w
  | [], k, listed, a, w, _, hk, hB, hD, h => by
    obtain rfl : k = n := by simpa using hk
    simp only [List.length_nil, Region.leadB, Bool.and_eq_true, decide_eq_true_eq] at hB
    rw [List.length_nil, Nat.zero_add]
    refine ⟨fun h0 => (by rw [hB.1] at h0; cases h0), fun i hi => ?_⟩
    rw [hB.1] at hi
    obtain rfl : i = k := by simpa using hi
    obtain ⟨hw, hwp⟩ := hL a w hD h
    unfold wpOp
    simp only [hn, hw, if_true]
    refine .inl (Oper.wp_mono (fun a' w' ⟨C, hCD, hC, hq⟩ => ⟨hCD _ hC, ?_⟩) hwp)
    exact wpAnyI_of_quiet hCD (fun a w hw h => h w hw) _ _ _ _ hC (wpAnyQ_lex hs rest (i + 1) _ _ hrest hB.2 hq)
  | o :: l, k, listed, a, w, hl, hk, hB, hD, h => by
    have h0 : ops[k]? = some o := by simpa using (hl 0 (by simp)).symm
    simp only [List.length_cons, Region.leadB, h0, Bool.and_eq_true] at hB
    obtain ⟨⟨⟨hr, hf⟩, hst⟩, hB'⟩ := hB
    obtain ⟨v, hy, hK⟩ := wpQuiet_cons h
    rw [show (o :: l).length + (rest.length + 1) = (l.length + (rest.length + 1)) + 1 by simp; omega]
    exact wpAnyI_first h0 (Region.noSelect_spec hs) hQ _ listed a w (Region.free_spec h0 hf) (by simpa using hr) (still_of hst hy) hD
      (wpAnyI_lead hs hQ hn hrest hL l (k + 1) _ _ w (fun j hj => by have := hl (j + 1) (by simp; omega); simpa [Nat.add_assoc, Nat.add_comm 1 j] using this) (by simp only [List.length_cons] at hk; omega) hB' hD hK)

/-- **A region that draws its order**: the first n operations read; the next one makes memory; the others wait for all of them, and are quiet. -/
theorem wp_region_lead {id : Nat} {Q : Exit → Act → World → Prop} {a : Act} {w : World} {l : List Oper} (n : Nat) (on : Oper) (hm : P.follows .mixedOrders = true) (hn : l[n]? = some on) (hg : on.guard = none)
    (hB : (Region.noSelect l.toArray && Region.leadB .any l.toArray (l.drop (n + 1)).length n 0 (Array.replicate l.toArray.size false)) = true)
    (h : wpQuiet P l.toArray (fun w' => ∃ x, w' = gw w x) (fun a1 => ∀ w1, (∃ x, w1 = gw w x) → on.wp P a1 w1 (fun a2 w2 => (∃ x, w2 = gw w x) ∧ wpQuiet P l.toArray (fun w' => ∃ x, w' = gw w2 x) (fun a3 => ∀ w3, (∃ x, w3 = gw w2 x) → Q .normal a3 w3) (l.drop (n + 1)) a2) (noPanic Q)) (l.take n) a) :
    (Code.region id l.toArray true).wp P Q a w := by
  simp only [Bool.and_eq_true] at hB
  have hn' : n < l.length := (List.getElem?_eq_some_iff.1 hn).1
  refine Code.wp_mono (Q := noPanic Q) (fun e a w hq => by cases e <;> first | exact hq | exact False.elim hq) ?_
  refine wp_region_any hm ?_
  have htl : (l.take n).length = n := by simp; omega
  have hC1 : ∃ x, { w with drawn := w.drawn + 1 } = gw w x := ⟨⟨#[], w.drawn + 1⟩, by simp [gw]⟩
  have H := wpAnyI_lead (md := .any) (Q := noPanic Q) (D := fun w' => ∃ x, w' = gw w x) (ops := l.toArray) (on := on) (n := n) (rest := l.drop (n + 1)) hB.1 (fun c a w h => h) (by simpa using hn) (fun j => by simp [List.getElem?_drop])
    (fun a1 w1 hD h1 => ⟨by unfold Region.wanted; rw [hg], Oper.wp_mono (fun a2 w2 ⟨⟨x, hx⟩, hq⟩ => ⟨fun w' => ∃ x, w' = gw w2 x, fun u ⟨y, hy⟩ => by rw [hy, hx]; exact (⟨⟨x.bs ++ y.bs, y.d⟩, by simp [gw]⟩ : ∃ z, gw (gw w x) y = gw w z), ⟨⟨#[], w2.drawn⟩, by simp [gw]⟩, hq⟩) (h1 w1 hD)⟩)
    (l.take n) 0 (Array.replicate l.toArray.size false) a { w with drawn := w.drawn + 1 } (fun j hj => by
      have hj' : j < n := by rw [htl] at hj; exact hj
      simp [hj']) (by simpa using htl) (by rw [htl]; exact hB.2) hC1 h
  rw [htl, show n + ((l.drop (n + 1)).length + 1) = l.toArray.size by simp; omega] at H
  exact wpAny_of_I _ _ _ _ H
end
end Go
