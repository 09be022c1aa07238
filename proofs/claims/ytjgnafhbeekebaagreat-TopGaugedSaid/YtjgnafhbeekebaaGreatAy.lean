/- A law for regions that draw their order: operations that do not look at memory first, then operations that leave what there was as it was, then the rest in one forced order. A law for regions that draw their order: operations that leave what there was, one that makes memory, then operations that wait for all of them. No conditions beyond each theorem's own. -/
import Derived.Test.YtjgnafhbeekebaaGreatAb
set_option linter.unusedVariables false
set_option linter.unusedSimpArgs false
set_option linter.unusedSectionVars false
set_option linter.constructorNameAsVariable false
namespace Go
open Go.RowKit

section
variable {P : Program} {ops : Array Oper} {md : Region.Mode} {C : World → Prop}

/-- an operation that does not look at memory -/
def Oper.pureB (o : Oper) : Bool :=
  match o.op with
  | .move _ | .assign _ | .fieldAddr _ _ _ | .nilCheck _ => true
  | _ => false

theorem pure_value {o : Oper} (h : o.pureB = true) {ρ : Operand → Value} {w w' : World} {n : Next} (hr : (execOp ρ o).run P w = .ok n w') : ∃ v, n = .value v := by
  obtain ⟨dst, op, type, pos, after, guard⟩ := o
  cases op <;> simp only [Oper.pureB, Bool.false_eq_true] at h <;> simp only [execOp] at hr
  case move x => simp at hr; exact ⟨_, hr.1.symm⟩
  case assign x => simp at hr; exact ⟨_, hr.1.symm⟩
  case fieldAddr s x f =>
    rw [Sem.run_bind] at hr
    cases h2 : (Instr.fieldAt s (ρ x) f).run P w with
    | ok v w1 => rw [h2] at hr; simp [Result.andThen] at hr; exact ⟨_, hr.1.symm⟩
    | halt e w1 => rw [h2] at hr; simp [Result.andThen] at hr
  case nilCheck x =>
    split at hr
    · simp [runtimePanic, goPanic] at hr
    · simp [runtimePanic, goPanic] at hr
    · simp [runtimePanic, goPanic] at hr
    · split at hr
      · simp [runtimePanic, goPanic] at hr
      · rw [Sem.run_bind] at hr
        cases h1 : (program).run P w with
        | halt e w1 => rw [h1] at hr; simp [Result.andThen] at hr
        | ok p1 w1 =>
          rw [h1, Result.andThen_ok, Sem.run_bind] at hr
          cases h2 : (nilAhead (p1.types.size + Made.depth) _ _ _).run P w1 with
          | halt e w2 => rw [h2] at hr; simp [Result.andThen] at hr
          | ok b w2 =>
            rw [h2, Result.andThen_ok] at hr
            split at hr
            · rw [Sem.run_bind] at hr
              simp [unsupported, Result.andThen] at hr
            · simp at hr; exact ⟨_, hr.1.symm⟩
      · simp at hr; exact ⟨_, hr.1.symm⟩
    · simp at hr; exact ⟨_, hr.1.symm⟩

theorem wpQuiet_mono {Q Q' : Act → Prop} (hq : ∀ a, Q a → Q' a) : ∀ (l : List Oper) (a : Act), wpQuiet P ops C Q l a → wpQuiet P ops C Q' l a
  | [], a, h => hq a h
  | o :: l, a, h => by
    unfold wpQuiet at h ⊢
    split
    · rename_i hw
      rw [if_pos hw] at h
      exact Oper.quiet_mono (fun a h => wpQuiet_mono hq l a h) h
    · rename_i hw
      rw [if_neg hw] at h
      exact wpQuiet_mono hq l _ h

theorem yields_pure {o : Oper} {v : Value} {a : Act} (h : o.pureB = true) (hy : YieldsIn P ops (fun w' => ∃ x : World, w' = x) o v a) : Yields P ops o v a := by
  rcases hy with ⟨h1, h2⟩ | h1
  · refine .inl ⟨h1, fun w => ?_⟩
    have := h2 w ⟨w, rfl⟩
    unfold Oper.quietAt at this
    cases hr : (execOp a.eval o).run P w with
    | halt e w1 => rw [hr] at this; simp [Oper.quietUpon] at this
    | ok n w1 =>
      obtain ⟨u, rfl⟩ := pure_value h hr
      rw [hr] at this
      simp only [Oper.quietUpon] at this
      rw [this.1, this.2]
  · exact .inr h1

def Region.pureOrd (md : Region.Mode) (ops : Array Oper) : List Nat → Array Bool → Bool
  | [], _ => true
  | i :: ps, listed => (Region.ready md ops listed).contains i && Region.free md ops listed i && (match ops[i]? with | some o => o.pureB | none => false) && Region.pureOrd md ops ps (listed.setIfInBounds i true)
def listAll (ps : List Nat) (listed : Array Bool) : Array Bool := ps.foldl (fun l i => l.setIfInBounds i true) listed

theorem wpAny_pures {Q : Exit → Act → World → Prop} (hs : Region.noSelect ops = true) (hQ : ∀ c a w, ¬ Q (.panic c) a w) (w : World) (fuel : Nat) : ∀ (ps : List Nat) (lp : List Oper) (listed : Array Bool) (a : Act), lp.map some = ps.map (fun i => ops[i]?) →
    Region.pureOrd md ops ps listed = true → wpQuiet P ops (fun w' => ∃ x : World, w' = x) (fun a' => wpAny P md ops Q fuel (listAll ps listed) a' w) lp a → wpAny P md ops Q (ps.length + fuel) listed a w
  | [], lp, listed, a, hl, _, h => by
    obtain rfl : lp = [] := by simpa using hl
    have h : wpAny P md ops Q fuel (listAll [] listed) a w := h
    simpa [listAll] using h
  | i :: ps, lp, listed, a, hl, hB, h => by
    cases lp with
    | nil => simp at hl
    | cons o lp =>
      simp only [List.map_cons, List.cons.injEq] at hl
      obtain ⟨h0, hl⟩ := hl
      simp only [Region.pureOrd, Bool.and_eq_true] at hB
      obtain ⟨⟨⟨hr, hf⟩, hp⟩, hB⟩ := hB
      rw [← h0] at hp
      obtain ⟨v, hy, hK⟩ := wpQuiet_cons h
      have ih := wpAny_pures hs hQ w fuel ps lp (listed.setIfInBounds i true) (a.put o.dst v) hl hB hK
      rw [show (i :: ps).length + fuel = (ps.length + fuel) + 1 by simp; omega]
      exact wpAny_take h0.symm hs hf hr (fun c a w h => absurd h (hQ c _ w)) (yields_pure hp hy) ih

/-- t waits for i, at once or through others -/
def Region.ancB (md : Region.Mode) (ops : Array Oper) (i : Nat) : Nat → Nat → Bool
  | 0, _ => false
  | f + 1, t => match ops[t]? with
    | some o => o.after.any fun e => Region.binds md e && (e.on == i || Region.ancB md ops i f e.on)
    | none => false

theorem anc_listed {listed : Array Bool} (hc : ∀ j oj, ops[j]? = some oj → listed.getD j false = true → ∀ e ∈ oj.after, Region.binds md e = true → listed.getD e.on false = true) (i : Nat) :
    ∀ (f t : Nat), (∀ o, ops[t]? = some o → ∀ e ∈ o.after, Region.binds md e = true → listed.getD e.on false = true) → Region.ancB md ops i f t = true → listed.getD i false = true
  | 0, _, _, h => by simp [Region.ancB] at h
  | f + 1, t, ht, h => by
    unfold Region.ancB at h
    cases ho : ops[t]? with
    | none => simp [ho] at h
    | some o =>
      simp only [ho] at h
      obtain ⟨e, he, hb⟩ := Array.any_eq_true'.1 h
      simp only [Bool.and_eq_true, Bool.or_eq_true, beq_iff_eq] at hb
      have hl := ht o ho e he hb.1
      rcases hb.2 with h1 | h1
      · rw [← h1]; exact hl
      · exact anc_listed hc i f e.on (fun o' ho' => hc e.on o' ho' hl) h1

/-- the first f operations that come up are heads, quiet in the class; then L -/
def wpAnyO (P : Program) (md : Region.Mode) (ops : Array Oper) (C : World → Prop) (H : List Nat) (L : Array Bool → Act → Prop) : Nat → Array Bool → Act → Prop
  | 0, listed, a => L listed a
  | f + 1, listed, a =>
    Region.ready md ops listed ≠ [] ∧ ∀ i ∈ Region.ready md ops listed, i ∈ H ∧ qOp P ops C i (wpAnyO P md ops C H L f (listed.setIfInBounds i true)) a

theorem wpAny_of_headO {H : List Nat} {g : Nat} {L : Array Bool → Act → Prop} {Q' : Exit → Act → World → Prop} (hL : ∀ listed a w, C w → L listed a → wpAny P md ops Q' g listed a w) :
    ∀ (f : Nat) (listed : Array Bool) (a : Act) (w : World), C w → wpAnyO P md ops C H L f listed a → wpAny P md ops Q' (f + g) listed a w
  | 0, listed, a, w, hC, h => by rw [Nat.zero_add]; exact hL _ _ _ hC h
  | f + 1, listed, a, w, hC, h => by
    rw [show f + 1 + g = (f + g) + 1 by omega]
    exact ⟨fun h0 => absurd h0 h.1, fun i hi => wpOp_of_qOp hC (fun a' w' hC' h' => wpAny_of_headO hL f _ a' w' hC' h') (h.2 i hi).2⟩

/-- the invariant while heads come up: T: the others, none of which has come -/
structure OrdInv (md : Region.Mode) (ops : Array Oper) (PS T : List Nat) (listed : Array Bool) : Prop where
  pl : ∀ i ∈ PS, listed.getD i true = true
  size : listed.size = ops.size
  closed : ∀ j oj, ops[j]? = some oj → listed.getD j false = true → ∀ e ∈ oj.after, Region.binds md e = true → listed.getD e.on false = true
  tail : ∀ t ∈ T, listed.getD t true = false

def Region.waitB (md : Region.Mode) (ops : Array Oper) (H T : List Nat) : Bool := T.all fun t => H.all fun i => Region.ancB md ops i ops.size t
def Region.partB (ops : Array Oper) (ps H T : List Nat) : Bool := (List.range ops.size).all fun i => ps.contains i || H.contains i || T.contains i

theorem set_true' {listed : Array Bool} {i j : Nat} (h : listed.getD j true = true) : (listed.setIfInBounds i true).getD j true = true := by
  by_cases hij : i = j
  · subst hij
    by_cases hs : i < listed.size <;> simp [Array.getElem?_setIfInBounds, hs]
  · rw [getD_set_ne true hij]; exact h

theorem wpAnyO_first {H PS T : List Nat} {i : Nat} {oi : Oper} {v : Value} {L : Array Bool → Act → Prop} (hi : ops[i]? = some oi) (hsel : ∀ (j : Nat) (o : Oper) cs b, ops[j]? = some o → o.op ≠ .select cs b)
    (hHT : ∀ j, j ∈ H → j ∉ T) (hcov : ∀ listed, OrdInv md ops PS T listed → ∀ j ∈ Region.ready md ops listed, (∃ h ∈ H, listed.getD h true = false) → j ∈ H) (hin : i ∈ H)
    (hdone : ∀ listed a, L listed a → ∀ j ∈ Region.ready md ops listed, j ∈ T) :
    ∀ (f : Nat) (listed : Array Bool) (a : Act), OrdInv md ops PS T listed →
      (∀ j oj, ops[j]? = some oj → j ≠ i → listed.getD j true = false → (∀ e ∈ oj.after, Region.binds md e = true → e.on ≠ i) → oi.apart ops oj = true) →
      i ∈ Region.ready md ops listed → YieldsIn P ops C oi v a →
      wpAnyO P md ops C H L f (listed.setIfInBounds i true) (a.put oi.dst v) → wpAnyO P md ops C H L (f + 1) listed a := by
  intro f
  induction f with
  | zero =>
    intro listed a inv _ hr hy Hx
    have hun := (mem_ready.1 hr).1
    refine ⟨fun h => (by rw [h] at hr; cases hr), fun j hj => ?_⟩
    have hjH := hcov listed inv j hj ⟨i, hin, hun⟩
    refine ⟨hjH, ?_⟩
    by_cases hji : j = i
    · subst hji; exact hy.qOp hi Hx
    · exact absurd (hdone _ _ Hx j (ready_mono hj hji)) (hHT j hjH)
  | succ f ih =>
    intro listed a inv hfree hr hy Hx
    have hun := (mem_ready.1 hr).1
    refine ⟨fun h => (by rw [h] at hr; cases hr), fun j hj => ?_⟩
    have hjH := hcov listed inv j hj ⟨i, hin, hun⟩
    refine ⟨hjH, ?_⟩
    by_cases hji : j = i
    · subst hji; exact hy.qOp hi Hx
    · have h1 := (Hx.2 j (ready_mono hj hji)).2
      obtain ⟨hjun, oj, hoj, hall⟩ := mem_ready.1 hj
      have hnot : ∀ e ∈ oj.after, Region.binds md e = true → e.on ≠ i := fun e he hb heq => by
        have h1 := hall e he hb
        rw [heq, getD_both hun] at h1
        cases h1
      have h2 := qOp_put hoj (hfree j oj hoj hji hjun hnot) (fun cs b => hsel i oi cs b hi) (fun cs b => hsel j oj cs b hoj) hy h1
      have hfree' : ∀ k ok, ops[k]? = some ok → k ≠ i → (listed.setIfInBounds j true).getD k true = false →
          (∀ e ∈ ok.after, Region.binds md e = true → e.on ≠ i) → oi.apart ops ok = true := fun k ok hk hki hun hno => by
        refine hfree k ok hk hki ?_ hno
        by_cases hjk : j = k
        · subst hjk; exact hjun
        · rw [getD_set_ne true hjk] at hun; exact hun
      have inv' : OrdInv md ops PS T (listed.setIfInBounds j true) := ⟨fun i hi => set_true' (inv.pl i hi), by simp [inv.size], closed_set inv.size inv.closed hj, fun t ht => by
        rw [getD_set_ne true (fun e => hHT j hjH (by rw [e]; exact ht))]; exact inv.tail t ht⟩
      refine qOp_mono (fun a' h3 => ih (listed.setIfInBounds j true) a' inv' hfree' (ready_mono hr (Ne.symm hji)) h3.1 ?_) h2
      rw [Array.setIfInBounds_comm _ _ hji]
      exact h3.2

def Region.headOrd (md : Region.Mode) (ops : Array Oper) : List Nat → Array Bool → Bool
  | [], _ => true
  | k :: ks, listed => (Region.ready md ops listed).contains k && Region.free md ops listed k && Region.headOrd md ops ks (listed.setIfInBounds k true)
def Region.seqOrd (md : Region.Mode) (ops : Array Oper) : List Nat → Array Bool → Bool
  | [], listed => (Region.ready md ops listed).isEmpty
  | t :: ts, listed => decide (Region.ready md ops listed = [t]) && Region.seqOrd md ops ts (listed.setIfInBounds t true)

theorem wpAnyO_lex {H PS T : List Nat} {Lq : Act → Prop} (hsel : Region.noSelect ops = true) (hHT : ∀ j, j ∈ H → j ∉ T) (hcov : ∀ listed, OrdInv md ops PS T listed → ∀ j ∈ Region.ready md ops listed, (∃ h ∈ H, listed.getD h true = false) → j ∈ H) :
    ∀ (hs : List Nat) (l : List Oper) (listed : Array Bool) (a : Act), l.map some = hs.map (fun i => ops[i]?) → (∀ h ∈ hs, h ∈ H) → OrdInv md ops PS T listed → Region.headOrd md ops hs listed = true → Region.seqOrd md ops T (listAll hs listed) = true →
    wpQuiet P ops C Lq l a → wpAnyO P md ops C H (fun listed' a' => Region.seqOrd md ops T listed' = true ∧ Lq a') hs.length listed a
  | [], l, listed, a, hl, _, _, _, hB, h => by
    obtain rfl : l = [] := by simpa using hl
    exact ⟨hB, h⟩
  | k :: hs, l, listed, a, hl, hm, inv, hB, hS, h => by
    cases l with
    | nil => simp at hl
    | cons o l =>
      simp only [List.map_cons, List.cons.injEq] at hl
      obtain ⟨h0, hl⟩ := hl
      simp only [Region.headOrd, Bool.and_eq_true] at hB
      obtain ⟨⟨hr, hf⟩, hB⟩ := hB
      have hr' : k ∈ Region.ready md ops listed := by simpa using hr
      obtain ⟨v, hy, hK⟩ := wpQuiet_cons h
      have hkH := hm k (by simp)
      have inv' : OrdInv md ops PS T (listed.setIfInBounds k true) := ⟨fun i hi => set_true' (inv.pl i hi), by simp [inv.size], closed_set inv.size inv.closed hr', fun t ht => by
        rw [getD_set_ne true (fun e => hHT k hkH (by rw [e]; exact ht))]; exact inv.tail t ht⟩
      refine wpAnyO_first h0.symm (Region.noSelect_spec hsel) hHT hcov hkH (fun listed' a' hL j hj => ?_) hs.length listed a inv (Region.free_spec h0.symm hf) hr' hy
        (wpAnyO_lex hsel hHT hcov hs l _ _ hl (fun h hh => hm h (by simp [hh])) inv' hB hS hK)
      cases hT : T with
      | nil => rw [hT] at hL; have := hL.1; simp only [Region.seqOrd, List.isEmpty_iff] at this; rw [this] at hj; cases hj
      | cons t ts =>
        rw [hT] at hL
        have := hL.1
        simp only [Region.seqOrd, Bool.and_eq_true, decide_eq_true_eq] at this
        rw [this.1] at hj
        simp at hj
        rw [hj]; simp

/-- operations in one order -/
def wpOrd (P : Program) (ops : Array Oper) (Q : Exit → Act → World → Prop) : List Oper → Act → World → Prop := wpList P ops Q

theorem wpAny_of_seqO {Q' : Exit → Act → World → Prop} : ∀ (ts : List Nat) (l : List Oper) (listed : Array Bool) (a : Act) (w : World), l.map some = ts.map (fun i => ops[i]?) →
    Region.seqOrd md ops ts listed = true → wpList P ops Q' l a w → wpAny P md ops Q' ts.length listed a w
  | [], l, _, _, _, hl, hB, h => by
    obtain rfl : l = [] := by simpa using hl
    exact ⟨by simpa [Region.seqOrd] using hB, h⟩
  | t :: ts, l, listed, a, w, hl, hB, h => by
    cases l with
    | nil => simp at hl
    | cons o l =>
      simp only [List.map_cons, List.cons.injEq] at hl
      obtain ⟨h0, hl⟩ := hl
      simp only [Region.seqOrd, Bool.and_eq_true, decide_eq_true_eq] at hB
      refine ⟨fun h1 => (by rw [hB.1] at h1; cases h1), fun i hi => ?_⟩
      rw [hB.1] at hi
      obtain rfl : i = t := by simpa using hi
      have hw : wpOp P ops Q' i (wpList P ops Q' l) a w := by unfold wpOp; simp only [← h0]; exact h
      exact wpOp_mono (fun a' w' h' => wpAny_of_seqO ts l _ a' w' hl hB.2 h') hw

def pickL (l : List Oper) : List Nat → List Oper
  | [] => []
  | i :: is => match l[i]? with
    | some o => o :: pickL l is
    | none => pickL l is
theorem pickL_map {l : List Oper} : ∀ (is : List Nat), is.all (fun i => Nat.blt i l.length) = true → (pickL l is).map some = is.map (fun i => l.toArray[i]?)
  | [], _ => rfl
  | i :: is, h => by
    simp only [List.all_cons, Bool.and_eq_true] at h
    have hi : i < l.length := by simpa using h.1
    have ih := pickL_map (l := l) is h.2
    have e : l[i]? = some l[i] := List.getElem?_eq_getElem hi
    simp only [pickL, e, List.map_cons, ih]
    simp [hi]

def Region.ordB (md : Region.Mode) (ops : Array Oper) (ps H T : List Nat) : Bool :=
  Region.noSelect ops && ps.all (fun i => Nat.blt i ops.size) && H.all (fun i => Nat.blt i ops.size && !T.contains i) && T.all (fun i => Nat.blt i ops.size && !ps.contains i) && Region.partB ops ps H T && Region.waitB md ops H T && decide (ps.length + H.length + T.length = ops.size) &&
  Region.pureOrd md ops ps (Array.replicate ops.size false) && Region.headOrd md ops H (listAll ps (Array.replicate ops.size false)) && Region.seqOrd md ops T (listAll H (listAll ps (Array.replicate ops.size false)))

theorem listAll_size : ∀ (ps : List Nat) (l : Array Bool), (listAll ps l).size = l.size
  | [], _ => rfl
  | i :: ps, l => by show (listAll ps (l.setIfInBounds i true)).size = _; rw [listAll_size ps]; simp
theorem listAll_out (d : Bool) : ∀ (ps : List Nat) (l : Array Bool) (t : Nat), t ∉ ps → (listAll ps l).getD t d = l.getD t d
  | [], _, _, _ => rfl
  | i :: ps, l, t, h => by
    show (listAll ps (l.setIfInBounds i true)).getD t d = _
    rw [listAll_out d ps _ t (fun h' => h (by simp [h'])), getD_set_ne d (fun e => h (by simp [e]))]
theorem listAll_in : ∀ (ps : List Nat) (l : Array Bool) (t : Nat), t ∈ ps → t < l.size → (listAll ps l).getD t true = true
  | i :: ps, l, t, h, hs => by
    show (listAll ps (l.setIfInBounds i true)).getD t true = true
    by_cases ht : t ∈ ps
    · exact listAll_in ps _ t ht (by simpa using hs)
    · rw [listAll_out true ps _ t ht]
      have : t = i := by simpa [ht] using h
      subst this
      simp [Array.getElem?_setIfInBounds, hs]

theorem pure_closed : ∀ (ps : List Nat) (listed : Array Bool), listed.size = ops.size → (∀ j oj, ops[j]? = some oj → listed.getD j false = true → ∀ e ∈ oj.after, Region.binds md e = true → listed.getD e.on false = true) →
    Region.pureOrd md ops ps listed = true → ∀ j oj, ops[j]? = some oj → (listAll ps listed).getD j false = true → ∀ e ∈ oj.after, Region.binds md e = true → (listAll ps listed).getD e.on false = true
  | [], _, _, hc, _ => hc
  | i :: ps, listed, hs, hc, hB => by
    simp only [Region.pureOrd, Bool.and_eq_true] at hB
    exact pure_closed ps (listed.setIfInBounds i true) (by simp [hs]) (closed_set hs hc (by simpa using hB.1.1.1)) hB.2

/-- the post, with no panic -/
def noPanic (Q : Exit → Act → World → Prop) : Exit → Act → World → Prop := fun e a w => match e with
  | .panic _ => False
  | _ => Q e a w

/-- **A region that draws its order**: ps do not look at memory; H leave what there was; T come in this order behind them. -/
theorem wp_region_ord {id : Nat} {Q : Exit → Act → World → Prop} {a : Act} {w : World} {l : List Oper} (ps H T : List Nat) (hm : P.follows .mixedOrders = true) (hB : Region.ordB .any l.toArray ps H T = true)
    (h : wpQuiet P l.toArray (fun w' => ∃ x : World, w' = x) (fun a1 => wpQuiet P l.toArray (fun w' => ∃ x, w' = gw w x) (fun a' => ∀ w', (∃ x, w' = gw w x) → wpList P l.toArray (noPanic Q) (pickL l T) a' w') (pickL l H) a1) (pickL l ps) a) : (Code.region id l.toArray true).wp P Q a w := by
  simp only [Region.ordB, Bool.and_eq_true, decide_eq_true_eq] at hB
  obtain ⟨⟨⟨⟨⟨⟨⟨⟨⟨hsel, hps⟩, hH⟩, hT⟩, hpart⟩, hwait⟩, hlen⟩, hpo⟩, hho⟩, hso⟩ := hB
  have q1 := pickL_map (l := l) ps (by simpa using hps)
  have q2 := pickL_map (l := l) H (by
    rw [List.all_eq_true] at hH ⊢
    intro i hi
    have := hH i hi
    simp only [Bool.and_eq_true] at this
    simpa using this.1)
  have q3 := pickL_map (l := l) T (by
    rw [List.all_eq_true] at hT ⊢
    intro i hi
    have := hT i hi
    simp only [Bool.and_eq_true] at this
    simpa using this.1)
  have hHT : ∀ j, j ∈ H → j ∉ T := fun j hj ht => by
    have := List.all_eq_true.1 hH j hj
    simp only [Bool.and_eq_true] at this
    simp [ht] at this
  have hpT : ∀ j, j ∈ T → j ∉ ps := fun j hj hp => by
    have := List.all_eq_true.1 hT j hj
    simp only [Bool.and_eq_true] at this
    simp [hp] at this
  refine Code.wp_mono (Q := noPanic Q) (fun e a w hq => by cases e <;> first | exact hq | exact False.elim hq) ?_
  refine wp_region_any hm ?_
  obtain ⟨w1, hw1⟩ : ∃ w1 : World, { w with drawn := w.drawn + 1 } = w1 := ⟨_, rfl⟩
  rw [hw1]
  have hC1 : ∃ x, w1 = gw w x := ⟨⟨#[], w.drawn + 1⟩, by rw [← hw1]; simp [gw]⟩
  have e0 : l.toArray.size = ps.length + (H.length + T.length) := by omega
  have hr0 : (Array.replicate l.toArray.size false) = (Array.replicate l.toArray.size false) := rfl
  generalize hR : (Array.replicate l.toArray.size false) = R0 at *
  have hRs : R0.size = l.toArray.size := by rw [← hR]; simp
  have hRf : ∀ j, R0.getD j false = true → False := fun j h => by rw [← hR, getD_replicate_false] at h; cases h
  have hRt : ∀ j, j < l.toArray.size → R0.getD j true = false := fun j h => by rw [← hR]; simp at h; simp [h]
  rw [e0]
  refine wpAny_pures (md := .any) hsel (fun c a w h => h) w1 (H.length + T.length) ps (pickL l ps) R0 a q1 hpo ?_
  refine wpQuiet_mono (fun a1 h1 => ?_) _ _ h
  have inv : OrdInv .any l.toArray ps T (listAll ps R0) := by
    refine ⟨fun i hi => listAll_in ps R0 i hi (by rw [hRs]; have := List.all_eq_true.1 hps i hi; simpa using this), by rw [listAll_size, hRs], pure_closed ps R0 hRs (fun j oj _ hl => absurd hl (hRf j)) hpo, fun t ht => ?_⟩
    rw [listAll_out true ps R0 t (hpT t ht)]
    have := List.all_eq_true.1 hT t ht
    simp only [Bool.and_eq_true] at this
    exact hRt t (by simpa using this.1)
  have hcov : ∀ listed, OrdInv .any l.toArray ps T listed → ∀ j ∈ Region.ready .any l.toArray listed, (∃ h ∈ H, listed.getD h true = false) → j ∈ H := by
    rintro listed I j hj ⟨i, hi, hun⟩
    obtain ⟨hjun, oj, hoj, hall⟩ := mem_ready.1 hj
    have hp := List.all_eq_true.1 hpart j (List.mem_range.2 (Array.getElem?_eq_some_iff.1 hoj).1)
    simp only [Bool.or_eq_true, List.contains_iff_mem] at hp
    rcases hp with (hp | hp) | hp
    · have := I.pl j hp; rw [hjun] at this; cases this
    · exact hp
    · exfalso
      have hw := List.all_eq_true.1 (List.all_eq_true.1 hwait j hp) i hi
      have := anc_listed I.closed i _ j (fun o ho e he hb => by
        obtain rfl : oj = o := by rw [hoj] at ho; exact Option.some.inj ho
        exact hall e he hb) hw
      rw [getD_both hun] at this
      cases this
  exact wpAny_of_headO (H := H) (fun listed a' w' hC hL => wpAny_of_seqO T (pickL l T) listed a' w' q3 hL.1 (hL.2 w' hC)) H.length (listAll ps R0) a1 w1 hC1
    (wpAnyO_lex hsel hHT hcov H (pickL l H) (listAll ps R0) a1 q2 (fun h hh => hh) inv hho hso h1)
end
end Go

namespace Go
open Go.RowKit

section
variable {P : Program} {ops : Array Oper} {md : Region.Mode} {D C : World → Prop} {Q : Exit → Act → World → Prop}

/-- an operation that calls nothing and leaves each world as it is -/
def Oper.stillB (o : Oper) : Bool :=
  match o.op with
  | .move _ | .assign _ | .fieldAddr _ _ _ | .nilCheck _ | .load _ _ => true
  | _ => false

theorem still_value {o : Oper} (h : o.stillB = true) {ρ : Operand → Value} {w w' : World} {n : Next} (hr : (execOp ρ o).run P w = .ok n w') : ∃ v, n = .value v := by
  by_cases hp : o.pureB = true
  · exact pure_value hp hr
  · obtain ⟨dst, op, type, pos, after, guard⟩ := o
    cases op <;> simp only [Oper.stillB, Oper.pureB, Bool.false_eq_true, not_true_eq_false] at h hp <;> simp only [execOp] at hr
    case load t x =>
      rw [Sem.run_bind] at hr
      cases h2 : (Instr.loadAt t (ρ x)).run P w with
      | ok v w1 => rw [h2] at hr; simp [Result.andThen] at hr; exact ⟨_, hr.1.symm⟩
      | halt e w1 => rw [h2] at hr; simp [Result.andThen] at hr

/-- in every world of the class the operation leaves this value, and the world as it is -/
def StillIn (P : Program) (ops : Array Oper) (D : World → Prop) (o : Oper) (v : Value) (a : Act) : Prop :=
  (Region.wanted o (yielded ops a.tmps) = true ∧ ∀ w, D w → (execOp a.eval o).run P w = .ok (.value v) w) ∨
  (Region.wanted o (yielded ops a.tmps) = false ∧ v = undef)

theorem still_of {o : Oper} {v : Value} {a : Act} (h : o.stillB = true) (hy : YieldsIn P ops D o v a) : StillIn P ops D o v a := by
  rcases hy with ⟨h1, h2⟩ | h1
  · refine .inl ⟨h1, fun w hw => ?_⟩
    have := h2 w hw
    unfold Oper.quietAt at this
    cases hr : (execOp a.eval o).run P w with
    | halt e w1 => rw [hr] at this; simp [Oper.quietUpon] at this
    | ok n w1 =>
      obtain ⟨u, rfl⟩ := still_value h hr
      rw [hr] at this
      simp only [Oper.quietUpon] at this
      rw [this.1, this.2]
  · exact .inr h1

theorem StillIn.of_same {o : Oper} {v : Value} {a a' : Act} (hy : StillIn P ops D o v a) (he : execOp a'.eval o = execOp a.eval o)
    (hw : Region.wanted o (yielded ops a'.tmps) = Region.wanted o (yielded ops a.tmps)) : StillIn P ops D o v a' := by
  unfold StillIn at *
  rw [he, hw]
  exact hy

theorem StillIn.wpOp {i : Nat} {o : Oper} {v : Value} {a : Act} (hi : ops[i]? = some o) (hy : StillIn P ops D o v a)
    {K : Act → World → Prop} {w : World} (hD : D w) (h : K (a.put o.dst v) w) : wpOp P ops Q i K a w := by
  unfold Go.wpOp
  simp only [hi]
  rcases hy with ⟨hw, hv⟩ | ⟨hw, rfl⟩
  · simp only [hw, if_true, Oper.wp, hv w hD, Oper.upon]; exact .inl h
  · simp only [hw, Bool.false_eq_true, if_false]; exact h

/-- another operation, apart from one that is still: whether the still one has come up makes no difference to it -/
theorem wpOp_still {j : Nat} {oi oj : Oper} {v : Value} (hj : ops[j]? = some oj) (hap : oi.apart ops oj = true)
    (hsi : ∀ cs b, oi.op ≠ .select cs b) (hsj : ∀ cs b, oj.op ≠ .select cs b) (hQ : ∀ c a w, ¬ Q (.panic c) a w) {K : Act → World → Prop} {a : Act} {w : World}
    (hy : StillIn P ops D oi v a) (h : wpOp P ops Q j K (a.put oi.dst v) w) : wpOp P ops Q j (fun a' w' => StillIn P ops D oi v a' ∧ K (a'.put oi.dst v) w') a w := by
  obtain ⟨h1, h2, h3⟩ := Oper.apart_spec hap
  have keep : ∀ (a : Act), StillIn P ops D oi v a → ∀ u, StillIn P ops D oi v (a.put oj.dst u) := fun a hy u => hy.of_same (execOp_put oi hsi a oj.dst u h3) (wanted_put oi a oj.dst u h3)
  have keepD : ∀ d, StillIn P ops D oi v { a with defers := d :: a.defers } := fun d => hy.of_same rfl rfl
  unfold wpOp at *
  simp only [hj] at *
  rw [wanted_put oj a oi.dst v h1] at h
  by_cases hw : Region.wanted oj (yielded ops a.tmps) = true
  · rw [if_pos hw] at h ⊢
    rcases h with h | ⟨ha, hl⟩
    · left
      unfold Oper.wp at *
      rw [execOp_put oj hsj a oi.dst v h1] at h
      cases hr : (execOp a.eval oj).run P w with
      | halt x w' => rw [hr] at h; cases x <;> simp only [Oper.upon] at h ⊢; exact absurd h (hQ _ _ _)
      | ok n w' =>
        rw [hr] at h
        cases n <;> simp only [Oper.upon] at h ⊢
        case value u => exact ⟨keep a hy u, by rw [← Act.put_comm a v u h2]; exact h⟩
        case skip => exact ⟨keep a hy _, by rw [← Act.put_comm a v undef h2]; exact h⟩
        case defer d => exact ⟨keep _ (keepD d) _, by rw [← Act.put_comm _ v undef h2, ← Act.put_defers]; exact h⟩
        case enter f args =>
          refine Calls.mono h fun e w'' he => ?_
          cases e with
          | returned u => exact ⟨keep a hy u, by rw [← Act.put_comm a v u h2]; exact he⟩
          | panicked c => exact absurd he (hQ _ _ _)
          | outgrown => exact he
        case row row args => exact Rows.mono h fun u w'' he => ⟨keep a hy u, by rw [← Act.put_comm a v u h2]; exact he⟩
    · right
      exact ⟨by unfold Oper.asks at *; rw [execOp_put oj hsj a oi.dst v h1] at ha; exact ha, hl⟩
  · rw [if_neg hw] at h ⊢
    exact ⟨keep a hy _, by rw [← Act.put_comm a v undef h2]; exact h⟩

/-- every order, each world of the class -/
def wpAnyI (P : Program) (md : Region.Mode) (ops : Array Oper) (D : World → Prop) (Q : Exit → Act → World → Prop) : Nat → Array Bool → Act → World → Prop
  | 0, listed, a, w => Region.ready md ops listed = [] ∧ Q .normal a w
  | f + 1, listed, a, w => (Region.ready md ops listed = [] → Q .normal a w) ∧ ∀ i ∈ Region.ready md ops listed, wpOp P ops Q i (fun a' w' => D w' ∧ wpAnyI P md ops D Q f (listed.setIfInBounds i true) a' w') a w

theorem wpAny_of_I : ∀ (f : Nat) (listed : Array Bool) (a : Act) (w : World), wpAnyI P md ops D Q f listed a w → wpAny P md ops Q f listed a w
  | 0, _, _, _, h => h
  | f + 1, _, _, _, h => ⟨h.1, fun i hi => wpOp_mono (fun a' w' h' => wpAny_of_I f _ a' w' h'.2) (h.2 i hi)⟩

theorem wpAnyI_of_quiet {Lq : Act → Prop} (hCD : ∀ w, C w → D w) (hQ : ∀ a w, C w → Lq a → Q .normal a w) : ∀ (f : Nat) (listed : Array Bool) (a : Act) (w : World), C w → wpAnyQ P md ops C Lq f listed a → wpAnyI P md ops D Q f listed a w
  | 0, _, _, _, hw, h => ⟨h.1, hQ _ _ hw h.2⟩
  | f + 1, _, _, _, hw, h => ⟨fun h0 => hQ _ _ hw (h.1 h0), fun i hi => wpOp_of_qOp hw (fun a' w' hw' h' => ⟨hCD _ hw', wpAnyI_of_quiet hCD hQ f _ a' w' hw' h'⟩) (h.2 i hi)⟩

/-- a still operation may be taken first -/
theorem wpAnyI_first {i : Nat} {oi : Oper} {v : Value} (hi : ops[i]? = some oi) (hsel : ∀ (j : Nat) (o : Oper) cs b, ops[j]? = some o → o.op ≠ .select cs b) (hQ : ∀ c a w, ¬ Q (.panic c) a w) :
    ∀ (f : Nat) (listed : Array Bool) (a : Act) (w : World),
      (∀ j oj, ops[j]? = some oj → j ≠ i → listed.getD j true = false → (∀ e ∈ oj.after, Region.binds md e = true → e.on ≠ i) → oi.apart ops oj = true) →
      i ∈ Region.ready md ops listed → StillIn P ops D oi v a → D w → wpAnyI P md ops D Q f (listed.setIfInBounds i true) (a.put oi.dst v) w → wpAnyI P md ops D Q (f + 1) listed a w := by
  intro f
  induction f with
  | zero =>
    intro listed a w _ hr hy hD H
    refine ⟨fun h => (by rw [h] at hr; cases hr), fun j hj => ?_⟩
    by_cases hji : j = i
    · subst hji; exact hy.wpOp hi hD ⟨hD, H⟩
    · have := ready_mono hj hji
      rw [H.1] at this
      cases this
  | succ f ih =>
    intro listed a w hfree hr hy hD H
    refine ⟨fun h => (by rw [h] at hr; cases hr), fun j hj => ?_⟩
    by_cases hji : j = i
    · subst hji; exact hy.wpOp hi hD ⟨hD, H⟩
    · have h1 := H.2 j (ready_mono hj hji)
      obtain ⟨hjun, oj, hoj, hall⟩ := mem_ready.1 hj
      have hnot : ∀ e ∈ oj.after, Region.binds md e = true → e.on ≠ i := fun e he hb heq => by
        have h1 := hall e he hb
        have h0 := (mem_ready.1 hr).1
        rw [heq, getD_both h0] at h1
        cases h1
      have h2 := wpOp_still hoj (hfree j oj hoj hji hjun hnot) (fun cs b => hsel i oi cs b hi) (fun cs b => hsel j oj cs b hoj) hQ hy h1
      have hfree' : ∀ k ok, ops[k]? = some ok → k ≠ i → (listed.setIfInBounds j true).getD k true = false →
          (∀ e ∈ ok.after, Region.binds md e = true → e.on ≠ i) → oi.apart ops ok = true := fun k ok hk hki hun hno => by
        refine hfree k ok hk hki ?_ hno
        by_cases hjk : j = k
        · subst hjk; exact hjun
        · rw [getD_set_ne true hjk] at hun; exact hun
      refine wpOp_mono (fun a' w' h3 => ⟨h3.2.1, ih (listed.setIfInBounds j true) a' w' hfree' (ready_mono hr (Ne.symm hji)) h3.1 h3.2.1 ?_⟩) h2
      rw [Array.setIfInBounds_comm _ _ hji]
      exact h3.2.2

/-- the first operations are still, and may be taken first; then n alone; then the others wait -/
def Region.leadB (md : Region.Mode) (ops : Array Oper) (g : Nat) : Nat → Nat → Array Bool → Bool
  | 0, k, listed => decide (Region.ready md ops listed = [k]) && Region.lexFrom md ops g (k + 1) (listed.setIfInBounds k true)
  | n + 1, k, listed => (Region.ready md ops listed).contains k && Region.free md ops listed k && (match ops[k]? with | some o => o.stillB | none => false) && Region.leadB md ops g n (k + 1) (listed.setIfInBounds k true)

theorem wpAnyI_lead {Lq : Act → Prop} {on : Oper} {rest : List Oper} {n : Nat} (hs : Region.noSelect ops = true) (hQ : ∀ c a w, ¬ Q (.panic c) a w) (hn : ops[n]? = some on) (hrest : ∀ j, rest[j]? = ops[n + 1 + j]?)
    (hL : ∀ a w, D w → Lq a → Region.wanted on (yielded ops a.tmps) = true ∧ on.wp P a w (fun a' w' => ∃ C : World → Prop, (∀ u, C u → D u) ∧ C w' ∧ wpQuiet P ops C (fun a3 => ∀ w3, C w3 → Q .normal a3 w3) rest a') Q) :
    ∀ (l : List Oper) (k : Nat) (listed : Array Bool) (a : Act) (w : World), (∀ j, j < l.length → l[j]? = ops[k + j]?) → k + l.length = n → Region.leadB md ops rest.length l.length k listed = true → D w →
      wpQuiet P ops D Lq l a → wpAnyI P md ops D Q (l.length + (rest.length + 1)) listed a w
  | [], k, listed, a, w, _, hk, hB, hD, h => by
    obtain rfl : k = n := by simpa using hk
    simp only [List.length_nil, Region.leadB, Bool.and_eq_true, decide_eq_true_eq] at hB
    rw [List.length_nil, Nat.zero_add]
    refine ⟨fun h0 => (by rw [hB.1] at h0; cases h0), fun i hi => ?_⟩
    rw [hB.1] at hi
    obtain rfl : i = k := by simpa using hi
    obtain ⟨hw, hwp⟩ := hL a w hD h
    unfold wpOp
    simp only [hn, hw, if_true]
    refine .inl (Oper.wp_mono (fun a' w' ⟨C, hCD, hC, hq⟩ => ⟨hCD _ hC, ?_⟩) hwp)
    exact wpAnyI_of_quiet hCD (fun a w hw h => h w hw) _ _ _ _ hC (wpAnyQ_lex hs rest (i + 1) _ _ hrest hB.2 hq)
  | o :: l, k, listed, a, w, hl, hk, hB, hD, h => by
    have h0 : ops[k]? = some o := by simpa using (hl 0 (by simp)).symm
    simp only [List.length_cons, Region.leadB, h0, Bool.and_eq_true] at hB
    obtain ⟨⟨⟨hr, hf⟩, hst⟩, hB'⟩ := hB
    obtain ⟨v, hy, hK⟩ := wpQuiet_cons h
    rw [show (o :: l).length + (rest.length + 1) = (l.length + (rest.length + 1)) + 1 by simp; omega]
    exact wpAnyI_first h0 (Region.noSelect_spec hs) hQ _ listed a w (Region.free_spec h0 hf) (by simpa using hr) (still_of hst hy) hD
      (wpAnyI_lead hs hQ hn hrest hL l (k + 1) _ _ w (fun j hj => by have := hl (j + 1) (by simp; omega); simpa [Nat.add_assoc, Nat.add_comm 1 j] using this) (by simp only [List.length_cons] at hk; omega) hB' hD hK)

/-- **A region that draws its order**: the first n operations read; the next one makes memory; the others wait for all of them, and are quiet. -/
theorem wp_region_lead {id : Nat} {Q : Exit → Act → World → Prop} {a : Act} {w : World} {l : List Oper} (n : Nat) (on : Oper) (hm : P.follows .mixedOrders = true) (hn : l[n]? = some on) (hg : on.guard = none)
    (hB : (Region.noSelect l.toArray && Region.leadB .any l.toArray (l.drop (n + 1)).length n 0 (Array.replicate l.toArray.size false)) = true)
    (h : wpQuiet P l.toArray (fun w' => ∃ x, w' = gw w x) (fun a1 => ∀ w1, (∃ x, w1 = gw w x) → on.wp P a1 w1 (fun a2 w2 => (∃ x, w2 = gw w x) ∧ wpQuiet P l.toArray (fun w' => ∃ x, w' = gw w2 x) (fun a3 => ∀ w3, (∃ x, w3 = gw w2 x) → Q .normal a3 w3) (l.drop (n + 1)) a2) (noPanic Q)) (l.take n) a) :
    (Code.region id l.toArray true).wp P Q a w := by
  simp only [Bool.and_eq_true] at hB
  have hn' : n < l.length := (List.getElem?_eq_some_iff.1 hn).1
  refine Code.wp_mono (Q := noPanic Q) (fun e a w hq => by cases e <;> first | exact hq | exact False.elim hq) ?_
  refine wp_region_any hm ?_
  have htl : (l.take n).length = n := by simp; omega
  have hC1 : ∃ x, { w with drawn := w.drawn + 1 } = gw w x := ⟨⟨#[], w.drawn + 1⟩, by simp [gw]⟩
  have H := wpAnyI_lead (md := .any) (Q := noPanic Q) (D := fun w' => ∃ x, w' = gw w x) (ops := l.toArray) (on := on) (n := n) (rest := l.drop (n + 1)) hB.1 (fun c a w h => h) (by simpa using hn) (fun j => by simp [List.getElem?_drop])
    (fun a1 w1 hD h1 => ⟨by unfold Region.wanted; rw [hg], Oper.wp_mono (fun a2 w2 ⟨⟨x, hx⟩, hq⟩ => ⟨fun w' => ∃ x, w' = gw w2 x, fun u ⟨y, hy⟩ => by rw [hy, hx]; exact (⟨⟨x.bs ++ y.bs, y.d⟩, by simp [gw]⟩ : ∃ z, gw (gw w x) y = gw w z), ⟨⟨#[], w2.drawn⟩, by simp [gw]⟩, hq⟩) (h1 w1 hD)⟩)
    (l.take n) 0 (Array.replicate l.toArray.size false) a { w with drawn := w.drawn + 1 } (fun j hj => by
      have hj' : j < n := by rw [htl] at hj; exact hj
      simp [hj']) (by simpa using htl) (by rw [htl]; exact hB.2) hC1 h
  rw [htl, show n + ((l.drop (n + 1)).length + 1) = l.toArray.size by simp; omega] at H
  exact wpAny_of_I _ _ _ _ H
end
end Go
