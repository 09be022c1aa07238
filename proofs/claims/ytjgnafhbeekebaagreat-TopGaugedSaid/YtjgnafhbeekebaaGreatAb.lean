/- A law for regions that draw their order and hold allocations of variables that are stored into at the end, next to operations that leave what there was as it was: one walk of these serves every order. No conditions beyond each theorem's own. -/
import Derived.Test.YtjgnafhbeekebaaGreatAa
import Derived.StillTail
import Derived.Laws.Tables
import Derived.Deep.WholeRow
set_option linter.unusedVariables false
set_option linter.unusedSimpArgs false
set_option linter.unusedSectionVars false
set_option linter.constructorNameAsVariable false
namespace Go
open Go.RowKit

/-- a variable that a region makes and stores into: the two operations' numbers, the temporary, the type, what is stored, the block before and behind it -/
structure BoxD where
  ia : Nat
  is : Nat
  d : Tmp
  T : TypeId
  x : Operand
  ob0 : Obj
  ob1 : Obj

/-- a block is overwritten, all else stays -/
structure Puts (w w1 : World) (B : Nat) (ob : Obj) : Prop where
  own : w1.heap[B]? = some ob
  far : ∀ k, k ≠ B → w1.heap[k]? = w.heap[k]?
  size : w1.heap.size = w.heap.size
  os : w1.os = w.os
  tape : w1.tape = w.tape
  output : w1.output = w.output

def StableW (S : World → Prop) : Prop := ∀ w w', Below w.heap.size w w' → S w → S w'

/-- what has been added, with S -/
structure GrewS (W : World) (S : World → Prop) where
  g : Grew
  s : S (gw W g)

theorem Calls.gwS {P : Program} {f : FuncId} {args : Array Value} {W : World} {S : World → Prop} {x : GrewS W S} {v : Value} (hS : StableW S)
    (h : Calls P f args (gw W x.g) fun e w' => e = .returned v ∧ Below (gw W x.g).heap.size (gw W x.g) w') :
    Calls P f args (gw W x.g) fun e w'' => e = .returned v ∧ ∃ x' : GrewS W S, w'' = gw W x'.g :=
  h.mono fun _ _ ⟨he, hb⟩ => by
    obtain ⟨y, hy⟩ := gw_of_below ((below_gw W x.g).trans (hb.mono (by simp [gw])))
    exact ⟨he, ⟨y, hy ▸ hS _ _ hb x.s⟩, hy⟩
theorem Calls.gwS_same {P : Program} {f : FuncId} {args : Array Value} {W : World} {S : World → Prop} {x : GrewS W S} {v : Value}
    (h : Calls P f args (gw W x.g) fun e w' => e = .returned v ∧ gw W x.g = w') :
    Calls P f args (gw W x.g) fun e w'' => e = .returned v ∧ ∃ x' : GrewS W S, w'' = gw W x'.g :=
  h.mono fun _ _ ⟨he, hb⟩ => ⟨he, x, hb.symm⟩

section
variable {P : Program} {ops : Array Oper} {md : Region.Mode}

def Region.waitsB (md : Region.Mode) (o : Oper) (i : Nat) : Bool := o.after.any fun e => Region.binds md e && e.on == i

/-- o2 reads what o1 (number i) writes only behind it -/
def Region.readB (md : Region.Mode) (ops : Array Oper) (i : Nat) (o1 o2 : Oper) : Bool :=
  match o1.dst with
  | some t => !(o2.looksAt ops).contains t || Region.waitsB md o2 i
  | none => true
def Region.pairB (md : Region.Mode) (ops : Array Oper) (i j : Nat) : Bool :=
  match ops[i]?, ops[j]? with
  | some oi, some oj =>
    (match oi.dst with | some t => oj.dst != some t | none => true) && Region.readB md ops i oi oj &&
    (match oj.dst with | some t => !(oi.looksAt ops).contains t || Region.waitsB md oj i | none => true)
  | _, _ => false
def Region.selfB (ops : Array Oper) (i : Nat) : Bool :=
  match ops[i]? with
  | some o => (match o.dst with | some t => !(o.looksAt ops).contains t | none => true)
  | none => false
def Region.quietsB (md : Region.Mode) (ops : Array Oper) : List Nat → Bool
  | [] => true
  | i :: rest => Region.selfB ops i && rest.all (fun j => decide (i ≠ j) && Region.pairB md ops i j) && Region.quietsB md ops rest
def Region.boxQB (md : Region.Mode) (ops : Array Oper) (b : Nat × Nat × Tmp) (i : Nat) : Bool :=
  match ops[i]?, ops[b.2.1]? with
  | some o, some s => decide (i ≠ b.1) && decide (i ≠ b.2.1) && o.dst != some b.2.2 && !(o.looksAt ops).contains b.2.2 && Region.readB md ops i o s
  | _, _ => false
def Region.boxesB (md : Region.Mode) (ops : Array Oper) : List (Nat × Nat × Tmp) → Bool
  | [] => true
  | b :: rest => decide (b.1 ≠ b.2.1) && (match ops[b.2.1]? with | some s => Region.waitsB md s b.1 | none => false) &&
      rest.all (fun c => decide (b.1 ≠ c.1) && decide (b.1 ≠ c.2.1) && decide (b.2.1 ≠ c.1) && decide (b.2.1 ≠ c.2.1) && decide (b.2.2 ≠ c.2.2) &&
        (match ops[b.2.1]? with | some s => !(s.looksAt ops).contains c.2.2 | none => false) && (match ops[c.2.1]? with | some s => !(s.looksAt ops).contains b.2.2 | none => false)) &&
      Region.boxesB md ops rest
def Region.backB (md : Region.Mode) (ops : Array Oper) (i : Nat) : Bool :=
  match ops[i]? with
  | some o => o.after.all fun e => !Region.binds md e || decide (e.on < i)
  | none => true
/-- the Bool over a region: qs: the numbers of the quiet operations, in the walk's order; bs: the variables -/
def Region.boxB (md : Region.Mode) (ops : Array Oper) (qs : List Nat) (bs : List (Nat × Nat × Tmp)) : Bool :=
  Region.noSelect ops && (List.range ops.size).all (fun i => qs.contains i || bs.any (fun b => b.1 == i || b.2.1 == i)) && (List.range ops.size).all (Region.backB md ops) &&
  Region.quietsB md ops qs && bs.all (fun b => qs.all (Region.boxQB md ops b)) && Region.boxesB md ops bs

/-- two frames that agree on what an operation looks at -/
theorem exec_agree {o : Oper} (hs : ∀ cs b, o.op ≠ .select cs b) {a a' : Act} (h : ∀ t ∈ o.looksAt ops, a.tmps[t]? = a'.tmps[t]?) :
    execOp a.eval o = execOp a'.eval o ∧ Region.wanted o (yielded ops a.tmps) = Region.wanted o (yielded ops a'.tmps) := by
  constructor
  · refine execOp_congr o hs fun x hx => ?_
    cases x with
    | tmp t =>
      have := h t (List.mem_append_left _ (List.mem_filterMap.2 ⟨.tmp t, by simpa using hx, rfl⟩))
      simp only [Act.eval, Array.getD_eq_getD_getElem?, this]
    | _ => rfl
  · unfold Region.wanted
    cases hg : o.guard with
    | none => rfl
    | some gw =>
      obtain ⟨g, want⟩ := gw
      have hy : yielded ops a.tmps g = yielded ops a'.tmps g := by
        unfold yielded
        cases ht : (ops[g]?).bind (·.dst) with
        | none => rfl
        | some t =>
          have := h t (by simp [Oper.looksAt, hg, ht])
          simp only [Option.bind_some, this]
      simp only [hy]

theorem put_get (a : Act) (d : Option Tmp) (v : Value) (t : Nat) : (a.put d v).tmps[t]? = if d = some t then (if t < a.tmps.size then some v else none) else a.tmps[t]? := by
  cases d with
  | none => simp [Act.put]
  | some d =>
    simp only [Act.put, Option.some.injEq]
    by_cases h : d = t
    · subst h; simp [Array.getElem?_setIfInBounds]
    · simp [Array.getElem?_setIfInBounds_ne h, h]
theorem put_size (a : Act) (d : Option Tmp) (v : Value) : (a.put d v).tmps.size = a.tmps.size := by cases d <;> simp [Act.put]
theorem put_defers (a : Act) (d : Option Tmp) (v : Value) : (a.put d v).defers = a.defers := by cases d <;> rfl

variable {C : World → Prop}
theorem wpQuiet_cons {Q : Act → Prop} {o : Oper} {rest : List Oper} {a : Act} (h : wpQuiet P ops C Q (o :: rest) a) : ∃ v, YieldsIn P ops C o v a ∧ wpQuiet P ops C Q rest (a.put o.dst v) := by
  unfold wpQuiet at h
  by_cases hw : Region.wanted o (yielded ops a.tmps) = true
  · simp only [hw, if_true] at h
    obtain ⟨v, h1, h2⟩ := h
    exact ⟨v, .inl ⟨hw, h1⟩, h2⟩
  · simp only [hw] at h
    exact ⟨undef, .inr ⟨by simpa using hw, rfl⟩, h⟩

theorem quiet_end {aH : Act} : ∀ (lq : List Oper) (a : Act), wpQuiet P ops C (fun a' => a' = aH) lq a →
    aH.tmps.size = a.tmps.size ∧ aH.defers = a.defers ∧ ∀ t, (∀ o ∈ lq, o.dst ≠ some t) → aH.tmps[t]? = a.tmps[t]?
  | [], a, h => by
    have h : a = aH := h
    subst h; exact ⟨rfl, rfl, fun _ _ => rfl⟩
  | o :: rest, a, h => by
    obtain ⟨v, _, h2⟩ := wpQuiet_cons h
    obtain ⟨e1, e2, e3⟩ := quiet_end rest _ h2
    rw [put_size] at e1
    rw [put_defers] at e2
    refine ⟨e1, e2, fun t ht => ?_⟩
    rw [e3 t fun o' ho' => ht o' (List.mem_cons_of_mem _ ho'), put_get, if_neg (ht o (List.mem_cons_self))]

/-- at one operation of the walk: the frame there, the value -/
theorem quiet_at {aH : Act} : ∀ (pre : List Oper) (o : Oper) (post : List Oper) (a : Act), wpQuiet P ops C (fun a' => a' = aH) (pre ++ o :: post) a →
    ∃ ap v, YieldsIn P ops C o v ap ∧ ap.tmps.size = a.tmps.size ∧ (∀ t, (∀ o' ∈ pre, o'.dst ≠ some t) → ap.tmps[t]? = a.tmps[t]?) ∧
      (∀ t, o.dst ≠ some t → (∀ o' ∈ post, o'.dst ≠ some t) → ap.tmps[t]? = aH.tmps[t]?) ∧
      (∀ t, o.dst = some t → (∀ o' ∈ post, o'.dst ≠ some t) → aH.tmps[t]? = if t < a.tmps.size then some v else none)
  | [], o, post, a, h => by
    obtain ⟨v, hy, h2⟩ := wpQuiet_cons h
    obtain ⟨e1, e2, e3⟩ := quiet_end post _ h2
    refine ⟨a, v, hy, rfl, fun _ _ => rfl, fun t h0 ht => ?_, fun t h0 ht => ?_⟩
    · rw [e3 t ht, put_get, if_neg h0]
    · rw [e3 t ht, put_get, if_pos h0]
  | q :: pre, o, post, a, h => by
    obtain ⟨u, _, h2⟩ := wpQuiet_cons h
    obtain ⟨ap, v, hy, g1, g2, g3, g4⟩ := quiet_at pre o post _ h2
    rw [put_size] at g1 g4
    refine ⟨ap, v, hy, g1, fun t ht => ?_, g3, g4⟩
    rw [g2 t fun o' ho' => ht o' (List.mem_cons_of_mem _ ho'), put_get, if_neg (ht q (List.mem_cons_self))]

theorem waitsB_spec {o : Oper} {i : Nat} (h : Region.waitsB md o i = true) : ∃ e ∈ o.after, Region.binds md e = true ∧ e.on = i := by
  obtain ⟨e, he, hb⟩ := Array.any_eq_true'.1 h
  simp only [Bool.and_eq_true, beq_iff_eq] at hb
  exact ⟨e, he, hb⟩

/-- one quiet operation against another one that comes behind it in the walk -/
structure PairS (md : Region.Mode) (ops : Array Oper) (i j : Nat) : Prop where
  ne : i ≠ j
  dst : ∀ oi oj t, ops[i]? = some oi → ops[j]? = some oj → oi.dst = some t → oj.dst ≠ some t
  fwd : ∀ oi oj t, ops[i]? = some oi → ops[j]? = some oj → oi.dst = some t → t ∈ oj.looksAt ops → Region.waitsB md oj i = true
  bwd : ∀ oi oj t, ops[i]? = some oi → ops[j]? = some oj → oj.dst = some t → t ∈ oi.looksAt ops → Region.waitsB md oj i = true

theorem readB_spec {i t : Nat} {o1 o2 : Oper} (h : Region.readB md ops i o1 o2 = true) (hd : o1.dst = some t) (ht : t ∈ o2.looksAt ops) : Region.waitsB md o2 i = true := by
  simp only [Region.readB, hd, Bool.or_eq_true] at h
  rcases h with h | h
  · simp at h; exact absurd ht h
  · exact h
theorem pairB_spec {i j : Nat} (hne : i ≠ j) (h : Region.pairB md ops i j = true) : PairS md ops i j := by
  unfold Region.pairB at h
  cases hi : ops[i]? with
  | none => simp [hi] at h
  | some oi =>
    cases hj : ops[j]? with
    | none => simp [hi, hj] at h
    | some oj =>
      simp only [hi, hj, Bool.and_eq_true] at h
      obtain ⟨⟨h1, h2⟩, h3⟩ := h
      refine ⟨hne, ?_, ?_, ?_⟩ <;> intro a b t ea eb hd
      · obtain rfl : oi = a := by rw [hi] at ea; exact Option.some.inj ea
        obtain rfl : oj = b := by rw [hj] at eb; exact Option.some.inj eb
        simp only [hd] at h1
        simpa using h1
      · obtain rfl : oi = a := by rw [hi] at ea; exact Option.some.inj ea
        obtain rfl : oj = b := by rw [hj] at eb; exact Option.some.inj eb
        exact readB_spec h2 hd
      · obtain rfl : oi = a := by rw [hi] at ea; exact Option.some.inj ea
        obtain rfl : oj = b := by rw [hj] at eb; exact Option.some.inj eb
        intro ht
        simp only [hd, Bool.or_eq_true] at h3
        rcases h3 with h3 | h3
        · simp at h3; exact absurd ht h3
        · exact h3

theorem quietsB_spec : ∀ (pre : List Nat) (i : Nat) (post : List Nat), Region.quietsB md ops (pre ++ i :: post) = true →
    (∀ o t, ops[i]? = some o → o.dst = some t → t ∉ o.looksAt ops) ∧ (∀ j ∈ pre, PairS md ops j i) ∧ (∀ j ∈ post, PairS md ops i j)
  | [], i, post, h => by
    simp only [List.nil_append, Region.quietsB, Bool.and_eq_true, List.all_eq_true, decide_eq_true_eq] at h
    refine ⟨fun o t ho hd => ?_, fun _ hj => (by cases hj), fun j hj => pairB_spec (h.1.2 j hj).1 (h.1.2 j hj).2⟩
    have := h.1.1
    simp only [Region.selfB, ho, hd] at this
    simpa using this
  | q :: pre, i, post, h => by
    simp only [List.cons_append, Region.quietsB, Bool.and_eq_true, List.all_eq_true, decide_eq_true_eq] at h
    obtain ⟨h1, h2, h3⟩ := quietsB_spec pre i post h.2
    refine ⟨h1, fun j hj => ?_, h3⟩
    rcases List.mem_cons.1 hj with rfl | hj
    · have := h.1.2 i (by simp); exact pairB_spec this.1 this.2
    · exact h2 j hj

def BoxD.key (b : BoxD) : Nat × Nat × Tmp := (b.ia, b.is, b.d)

/-- two variables -/
structure BoxS (md : Region.Mode) (ops : Array Oper) (b c : BoxD) : Prop where
  aa : b.ia ≠ c.ia
  as : b.ia ≠ c.is
  sa : b.is ≠ c.ia
  ss : b.is ≠ c.is
  dd : b.d ≠ c.d
  l1 : ∀ s, ops[b.is]? = some s → c.d ∉ s.looksAt ops
  l2 : ∀ s, ops[c.is]? = some s → b.d ∉ s.looksAt ops
theorem BoxS.symm {b c : BoxD} (h : BoxS md ops b c) : BoxS md ops c b := ⟨h.aa.symm, h.sa.symm, h.as.symm, h.ss.symm, h.dd.symm, h.l2, h.l1⟩

theorem boxesB_spec : ∀ (bs : List BoxD), Region.boxesB md ops (bs.map BoxD.key) = true → (∀ b ∈ bs, b.ia ≠ b.is ∧ ∀ s, ops[b.is]? = some s → Region.waitsB md s b.ia = true) ∧ bs.Pairwise (BoxS md ops)
  | [], _ => ⟨fun _ h => (by cases h), .nil⟩
  | b :: rest, h => by
    simp only [List.map_cons, Region.boxesB, Bool.and_eq_true, List.all_eq_true, decide_eq_true_eq] at h
    obtain ⟨i1, i2⟩ := boxesB_spec rest h.2
    obtain ⟨⟨⟨h1, h2⟩, h3⟩, _⟩ := h
    refine ⟨fun c hc => ?_, .cons (fun c hc => ?_) i2⟩
    · rcases List.mem_cons.1 hc with rfl | hc
      · refine ⟨h1, fun s hs => ?_⟩
        have hs' : ops[c.key.2.1]? = some s := hs
        rw [hs'] at h2; exact h2
      · exact i1 c hc
    · obtain ⟨⟨⟨⟨⟨⟨q1, q2⟩, q3⟩, q4⟩, q5⟩, q6⟩, q7⟩ := h3 c.key (List.mem_map_of_mem hc)
      refine ⟨q1, q2, q3, q4, q5, fun s hs => ?_, fun s hs => ?_⟩
      · have hs' : ops[b.key.2.1]? = some s := hs
        rw [hs'] at q6; simpa [BoxD.key] using q6
      · have hs' : ops[c.key.2.1]? = some s := hs
        rw [hs'] at q7; simpa [BoxD.key] using q7
theorem pairwise_of {α : Type} {R : α → α → Prop} (hs : ∀ a b, R a b → R b a) : ∀ {l : List α}, l.Pairwise R → ∀ a ∈ l, ∀ b ∈ l, a ≠ b → R a b
  | [], _, _, ha, _, _, _ => by cases ha
  | x :: l, h, a, ha, b, hb, hne => by
    rcases List.pairwise_cons.1 h with ⟨h1, h2⟩
    rcases List.mem_cons.1 ha with e1 | ha'
    · rcases List.mem_cons.1 hb with e2 | hb'
      · exact absurd (e1.trans e2.symm) hne
      · rw [e1]; exact h1 b hb'
    · rcases List.mem_cons.1 hb with e2 | hb'
      · rw [e2]; exact hs _ _ (h1 a ha')
      · exact pairwise_of hs h2 a ha' b hb' hne

theorem boxQB_spec {b : BoxD} {i : Nat} (h : Region.boxQB md ops b.key i = true) : i ≠ b.ia ∧ i ≠ b.is ∧ (∀ o, ops[i]? = some o → o.dst ≠ some b.d ∧ b.d ∉ o.looksAt ops) ∧
    ∀ o s t, ops[i]? = some o → ops[b.is]? = some s → o.dst = some t → t ∈ s.looksAt ops → Region.waitsB md s i = true := by
  unfold Region.boxQB at h
  cases hi : ops[i]? with
  | none => simp [hi] at h
  | some o =>
    cases hj : ops[b.key.2.1]? with
    | none => simp [hi, hj] at h
    | some s =>
      simp only [hi, hj, Bool.and_eq_true, decide_eq_true_eq, bne_iff_ne] at h
      obtain ⟨⟨⟨⟨h1, h2⟩, h3⟩, h4⟩, h5⟩ := h
      refine ⟨h1, h2, fun o' ho => ?_, fun o' s' t ho hs hd ht => ?_⟩
      · obtain rfl : o = o' := Option.some.inj ho
        exact ⟨h3, by simpa [BoxD.key] using h4⟩
      · obtain rfl : o = o' := Option.some.inj ho
        have hj' : ops[b.is]? = some s := hj
        obtain rfl : s = s' := by rw [hj'] at hs; exact Option.some.inj hs
        exact readB_spec h5 hd ht

/-- the state between two operations -/
structure BoxInv (md : Region.Mode) (ops : Array Oper) (qs : List Nat) (bs : List BoxD) (W : World) (a0 aH : Act) (listed : Array Bool) (β : Nat → Nat) (a : Act) (w : World) : Prop where
  size : listed.size = ops.size
  closed : ∀ j oj, ops[j]? = some oj → listed.getD j false = true → ∀ e ∈ oj.after, Region.binds md e = true → listed.getD e.on false = true
  tsize : a.tmps.size = a0.tmps.size
  defers : a.defers = a0.defers
  q : ∀ i ∈ qs, ∀ o t, ops[i]? = some o → o.dst = some t → listed.getD i false = true → a.tmps[t]? = aH.tmps[t]?
  bx : ∀ b ∈ bs, listed.getD b.ia false = true → a.tmps[b.d]? = some (.pointer (some ⟨β b.d, 0, none⟩))
  un : ∀ t, (∀ i ∈ qs, listed.getD i false = true → ∀ o, ops[i]? = some o → o.dst ≠ some t) → (∀ b ∈ bs, listed.getD b.ia false = true → b.d ≠ t) → a.tmps[t]? = a0.tmps[t]?
  low : Below W.heap.size W w
  box : ∀ b ∈ bs, listed.getD b.ia false = true → W.heap.size ≤ β b.d ∧ w.heap[β b.d]? = some (if listed.getD b.is false then b.ob1 else b.ob0)
  dist : ∀ b ∈ bs, ∀ c ∈ bs, listed.getD b.ia false = true → listed.getD c.ia false = true → b.d ≠ c.d → β b.d ≠ β c.d

/-- all that the law asks -/
structure BoxLaw (P : Program) (md : Region.Mode) (ops : Array Oper) (qs : List Nat) (bs : List BoxD) (W : World) (a0 aH : Act) : Prop where
  sel : Region.noSelect ops = true
  cover : ∀ i, i < ops.size → i ∈ qs ∨ ∃ b ∈ bs, i = b.ia ∨ i = b.is
  back : ∀ i o, ops[i]? = some o → ∀ e ∈ o.after, Region.binds md e = true → e.on < i
  quiet : ∀ pre i post, qs = pre ++ i :: post → (∀ o t, ops[i]? = some o → o.dst = some t → t ∉ o.looksAt ops) ∧ (∀ j ∈ pre, PairS md ops j i) ∧ (∀ j ∈ post, PairS md ops i j)
  boxq : ∀ b ∈ bs, ∀ i ∈ qs, i ≠ b.ia ∧ i ≠ b.is ∧ (∀ o, ops[i]? = some o → o.dst ≠ some b.d ∧ b.d ∉ o.looksAt ops) ∧ ∀ o s t, ops[i]? = some o → ops[b.is]? = some s → o.dst = some t → t ∈ s.looksAt ops → Region.waitsB md s i = true
  boxes : ∀ b ∈ bs, b.ia ≠ b.is ∧ ∀ s, ops[b.is]? = some s → Region.waitsB md s b.ia = true
  boxp : ∀ b ∈ bs, ∀ c ∈ bs, b ≠ c → BoxS md ops b c
  alloc : ∀ b ∈ bs, ∃ o, ops[b.ia]? = some o ∧ o.dst = some b.d ∧ o.op = .alloc b.T ∧ o.guard = none
  store : ∀ b ∈ bs, ∃ o, ops[b.is]? = some o ∧ o.dst = none ∧ o.op = .store b.T (.tmp b.d) b.x ∧ o.guard = none
  runA : ∀ b ∈ bs, ∀ w, (Instr.alloc b.T true (.tuple #[])).run P w = .ok (.pointer (some ⟨w.heap.size, 0, none⟩)) (w.alloc b.ob0)
  runS : ∀ b ∈ bs, ∀ w B, w.heap[B]? = some b.ob0 → ∃ w1, (Instr.storeAt b.T (.pointer (some ⟨B, 0, none⟩)) (aH.eval b.x)).run P w = .ok () w1 ∧ Puts w w1 B b.ob1
  xne : ∀ b ∈ bs, b.x ≠ .tmp b.d
  dlt : ∀ b ∈ bs, b.d < a0.tmps.size
  asize : aH.tmps.size = a0.tmps.size
  adefers : aH.defers = a0.defers
  rest : ∀ t, (∀ i ∈ qs, ∀ o, ops[i]? = some o → o.dst ≠ some t) → aH.tmps[t]? = a0.tmps[t]?
  walk : ∀ S : World → Prop, StableW S → (∃ x, S (gw W x)) → ∀ pre i post, qs = pre ++ i :: post → ∃ o ap v, ops[i]? = some o ∧ YieldsIn P ops (fun w' => ∃ x : GrewS W S, w' = gw W x.g) o v ap ∧
    (∀ t, (∀ j ∈ pre, ∀ oj, ops[j]? = some oj → oj.dst ≠ some t) → ap.tmps[t]? = a0.tmps[t]?) ∧
    (∀ t, o.dst ≠ some t → (∀ j ∈ post, ∀ oj, ops[j]? = some oj → oj.dst ≠ some t) → ap.tmps[t]? = aH.tmps[t]?) ∧
    (∀ t, o.dst = some t → (∀ j ∈ post, ∀ oj, ops[j]? = some oj → oj.dst ≠ some t) → aH.tmps[t]? = if t < a0.tmps.size then some v else none)

theorem listed_set {listed : Array Bool} {i j : Nat} (hi : i < listed.size) : (listed.setIfInBounds i true).getD j false = true ↔ j = i ∨ listed.getD j false = true := by
  by_cases h : j = i
  · subst h; simp [Array.getElem?_setIfInBounds, hi]
  · rw [getD_set_ne false (Ne.symm h)]; simp [h]

theorem closed_set {listed : Array Bool} {i : Nat} (hs : listed.size = ops.size) (hc : ∀ j oj, ops[j]? = some oj → listed.getD j false = true → ∀ e ∈ oj.after, Region.binds md e = true → listed.getD e.on false = true)
    (hi : i ∈ Region.ready md ops listed) : ∀ j oj, ops[j]? = some oj → (listed.setIfInBounds i true).getD j false = true → ∀ e ∈ oj.after, Region.binds md e = true → (listed.setIfInBounds i true).getD e.on false = true := by
  obtain ⟨_, oi, hoi, hall⟩ := mem_ready.1 hi
  have hil : i < listed.size := by rw [hs]; exact (Array.getElem?_eq_some_iff.1 hoi).1
  intro j oj hj hl e he hb
  rw [listed_set hil] at hl ⊢
  rcases hl with rfl | hl
  · obtain rfl : oj = oi := Option.some.inj (hj.symm.trans hoi)
    exact .inr (hall e he hb)
  · exact .inr (hc j oj hj hl e he hb)

variable {qs : List Nat} {bs : List BoxD} {W : World} {a0 aH : Act} {listed : Array Bool} {β : Nat → Nat} {a : Act} {w : World} {Q : Exit → Act → World → Prop}

theorem mem_split {α : Type} {x : α} {l : List α} (h : x ∈ l) : ∃ pre post, l = pre ++ x :: post := List.append_of_mem h

theorem BoxLaw.distinct (L : BoxLaw P md ops qs bs W a0 aH) {i j : Nat} (hi : i ∈ qs) (hj : j ∈ qs) (hne : i ≠ j) {oi oj : Oper} {t : Nat} (h1 : ops[i]? = some oi) (h2 : ops[j]? = some oj) (ht : oi.dst = some t) : oj.dst ≠ some t := by
  obtain ⟨pre, post, e⟩ := mem_split hi
  obtain ⟨_, l1, l2⟩ := L.quiet pre i post e
  rw [e] at hj
  rcases List.mem_append.1 hj with h | h
  · intro hc
    exact (l1 j h).dst oj oi t h2 h1 hc ht
  · rcases List.mem_cons.1 h with rfl | h
    · exact absurd rfl hne
    · exact (l2 j h).dst oi oj t h1 h2 ht

theorem BoxLaw.step_quiet (L : BoxLaw P md ops qs bs W a0 aH) (I : BoxInv md ops qs bs W a0 aH listed β a w) {i : Nat} (hr : i ∈ Region.ready md ops listed) (hq : i ∈ qs) :
    wpOp P ops Q i (fun a' w' => BoxInv md ops qs bs W a0 aH (listed.setIfInBounds i true) β a' w') a w := by
  have hcl := closed_set I.size I.closed hr
  obtain ⟨hun, oi, hoi, hall⟩ := mem_ready.1 hr
  have hil : i < listed.size := by rw [I.size]; exact (Array.getElem?_eq_some_iff.1 hoi).1
  obtain ⟨pre, post, e⟩ := mem_split hq
  obtain ⟨hself, hpre, hpost⟩ := L.quiet pre i post e
  have hS : StableW (fun w' => ∀ b ∈ bs, listed.getD b.ia false = true → w'.heap[β b.d]? = some (if listed.getD b.is false then b.ob1 else b.ob0)) := fun w1 w2 hb h b hbm hl =>
    (hb.block _ (Array.getElem?_eq_some_iff.1 (h b hbm hl)).1).trans (h b hbm hl)
  obtain ⟨x, hx⟩ := gw_of_below I.low
  obtain ⟨o, ap, v, ho, hy, f1, f2, f3⟩ := L.walk _ hS ⟨x, hx ▸ fun b hb hl => (I.box b hb hl).2⟩ pre i post e
  obtain rfl : oi = o := by rw [hoi] at ho; exact Option.some.inj ho
  have hag : ∀ t ∈ oi.looksAt ops, a.tmps[t]? = ap.tmps[t]? := by
    intro t ht
    have nd : oi.dst ≠ some t := fun h => hself oi t hoi h ht
    have nb : ∀ b ∈ bs, b.d ≠ t := fun b hb h => ((L.boxq b hb i hq).2.2.1 oi hoi).2 (h ▸ ht)
    by_cases h1 : ∃ j ∈ pre, ∃ oj, ops[j]? = some oj ∧ oj.dst = some t
    · obtain ⟨j, hj, oj, hoj, hd⟩ := h1
      obtain ⟨e1, he1, hb1, hon⟩ := waitsB_spec ((hpre j hj).fwd oj oi t hoj hoi hd ht)
      have hl := hall e1 he1 hb1
      rw [hon] at hl
      have hjq : j ∈ qs := by rw [e]; exact List.mem_append_left _ hj
      rw [I.q j hjq oj t hoj hd hl, f2 t nd fun k hk ok hok => L.distinct hjq (by rw [e]; simp [hk]) (fun hjk => ?_) hoj hok hd]
      subst hjk
      have p1 := hpost j hk
      have p2 := hpre j hj
      exact p1.dst oi oj t hoi hoj (by
        exact absurd hd (by
          have := p2.dst oj oi
          intro _
          obtain ⟨pre1, mid, e2⟩ := mem_split hj
          have q := (L.quiet pre1 j (mid ++ i :: post) (by rw [e, e2]; simp)).2.2 j (by simp [hk])
          exact q.ne rfl)) hd
    · have n1 : ∀ j ∈ pre, ∀ oj, ops[j]? = some oj → oj.dst ≠ some t := fun j hj oj hoj hd => h1 ⟨j, hj, oj, hoj, hd⟩
      rw [f1 t n1]
      refine I.un t (fun j hj hl oj hoj hd => ?_) fun b hb _ => nb b hb
      rw [e] at hj
      rcases List.mem_append.1 hj with h | h
      · exact n1 j h oj hoj hd
      · rcases List.mem_cons.1 h with rfl | h
        · obtain rfl : oi = oj := by rw [hoi] at hoj; exact Option.some.inj hoj
          exact nd hd
        · obtain ⟨e1, he1, hb1, hon⟩ := waitsB_spec ((hpost j h).bwd oi oj t hoi hoj hd ht)
          have := I.closed j oj hoj hl e1 he1 hb1
          rw [hon, getD_both hun] at this
          cases this
  have hsel := Region.noSelect_spec L.sel
  obtain ⟨g1, g2⟩ := exec_agree (fun cs b => hsel i oi cs b hoi) hag
  have hy' := hy.of_same g1 g2
  have hqop : qOp P ops (fun w' => ∃ y : GrewS W (fun w' => ∀ b ∈ bs, listed.getD b.ia false = true → w'.heap[β b.d]? = some (if listed.getD b.is false then b.ob1 else b.ob0)), w' = gw W y.g) i (fun a' => a' = a.put oi.dst v) a :=
    hy'.qOp hoi rfl
  refine wpOp_of_qOp (C := fun w' => ∃ y : GrewS W (fun w' => ∀ b ∈ bs, listed.getD b.ia false = true → w'.heap[β b.d]? = some (if listed.getD b.is false then b.ob1 else b.ob0)), w' = gw W y.g) ⟨⟨x, hx ▸ fun b hb hl => (I.box b hb hl).2⟩, hx⟩ ?_ hqop
  rintro a' w' ⟨y, rfl⟩ rfl
  have hys := y.s
  refine ⟨by simp [I.size], hcl, by rw [put_size]; exact I.tsize, by rw [put_defers]; exact I.defers, ?_, ?_, ?_, below_gw W y.g, ?_, ?_⟩
  · intro j hj oj t hoj hd hl
    rw [put_get]
    by_cases hji : j = i
    · subst hji
      obtain rfl : oi = oj := by rw [hoi] at hoj; exact Option.some.inj hoj
      rw [if_pos hd, I.tsize]
      exact (f3 t hd fun k hk ok hok => (hpost k hk).dst oi ok t hoi hok hd).symm
    · rw [if_neg (L.distinct hj hq hji hoj hoi hd)]
      rw [listed_set hil] at hl
      exact I.q j hj oj t hoj hd (hl.resolve_left hji)
  · intro b hb hl
    have hb1 := L.boxq b hb i hq
    rw [put_get, if_neg (hb1.2.2.1 oi hoi).1]
    rw [listed_set hil] at hl
    exact I.bx b hb (hl.resolve_left (Ne.symm hb1.1))
  · intro t h1 h2
    have nd : oi.dst ≠ some t := h1 i hq ((listed_set hil).2 (.inl rfl)) oi hoi
    rw [put_get, if_neg nd]
    exact I.un t (fun j hj hl => h1 j hj ((listed_set hil).2 (.inr hl))) fun b hb hl => h2 b hb ((listed_set hil).2 (.inr hl))
  · intro b hb hl
    have hb1 := L.boxq b hb i hq
    rw [listed_set hil] at hl
    have hl' := hl.resolve_left (Ne.symm hb1.1)
    refine ⟨(I.box b hb hl').1, ?_⟩
    rw [hys b hb hl', getD_set_ne false hb1.2.1]
  · intro b hb c hc h1 h2 hd
    rw [listed_set hil] at h1 h2
    exact I.dist b hb c hc (h1.resolve_left (Ne.symm (L.boxq b hb i hq).1)) (h2.resolve_left (Ne.symm (L.boxq c hc i hq).1)) hd

theorem BoxLaw.step_alloc (L : BoxLaw P md ops qs bs W a0 aH) (I : BoxInv md ops qs bs W a0 aH listed β a w) {b : BoxD} (hb : b ∈ bs) (hr : b.ia ∈ Region.ready md ops listed) :
    wpOp P ops Q b.ia (fun a' w' => ∃ β', BoxInv md ops qs bs W a0 aH (listed.setIfInBounds b.ia true) β' a' w') a w := by
  have hcl := closed_set I.size I.closed hr
  obtain ⟨hun, oi, hoi, hall⟩ := mem_ready.1 hr
  have hil : b.ia < listed.size := by rw [I.size]; exact (Array.getElem?_eq_some_iff.1 hoi).1
  obtain ⟨o, ho, hd, hop, hg⟩ := L.alloc b hb
  obtain rfl : oi = o := by rw [hoi] at ho; exact Option.some.inj ho
  have hunf := getD_both hun
  have hsu : listed.getD b.is false = false := by
    cases h : listed.getD b.is false with
    | false => rfl
    | true =>
      obtain ⟨s, hs, _⟩ := L.store b hb
      obtain ⟨e1, he1, hb1, hon⟩ := waitsB_spec ((L.boxes b hb).2 s hs)
      have := I.closed b.is s hs h e1 he1 hb1
      rw [hon, hunf] at this
      cases this
  unfold wpOp
  simp only [hoi]
  have hw : Region.wanted oi (yielded ops a.tmps) = true := by simp [Region.wanted, hg]
  simp only [hw, if_true]
  refine .inl ?_
  have hrun : (execOp a.eval oi).run P w = .ok (.value (.pointer (some ⟨w.heap.size, 0, none⟩))) (w.alloc b.ob0) := by
    simp only [execOp, hop]
    rw [Sem.run_bind]
    simp [L.runA b hb w, Result.andThen]
  simp only [Oper.wp, hrun, Oper.upon]
  have old : ∀ c ∈ bs, listed.getD c.ia false = true → c ≠ b := fun c hc hl e => by rw [e, hunf] at hl; cases hl
  refine ⟨fun t => if t = b.d then w.heap.size else β t, by simp [I.size], hcl, by rw [put_size]; exact I.tsize, by rw [put_defers]; exact I.defers, ?_, ?_, ?_, I.low.alloc I.low.size _, ?_, ?_⟩
  · intro j hj oj t hoj hdj hl
    rw [listed_set hil] at hl
    have hl' := hl.resolve_left (L.boxq b hb j hj).1
    rw [put_get, hd, if_neg (fun h => ((L.boxq b hb j hj).2.2.1 oj hoj).1 (by rw [hdj]; exact h.symm))]
    exact I.q j hj oj t hoj hdj hl'
  · intro c hc hl
    rw [listed_set hil] at hl
    by_cases hcb : c = b
    · subst hcb
      rw [put_get, if_pos hd, if_pos (by rw [I.tsize]; exact L.dlt c hc)]
      simp
    · have S := L.boxp c hc b hb hcb
      rw [put_get, hd, if_neg (fun h => S.dd (Option.some.inj h).symm), if_neg S.dd]
      exact I.bx c hc (hl.resolve_left S.aa)
  · intro t h1 h2
    have hbd : b.d ≠ t := h2 b hb ((listed_set hil).2 (.inl rfl))
    rw [put_get, hd, if_neg (fun h => hbd (Option.some.inj h))]
    exact I.un t (fun j hj hl => h1 j hj ((listed_set hil).2 (.inr hl))) fun c hc hl => h2 c hc ((listed_set hil).2 (.inr hl))
  · intro c hc hl
    rw [listed_set hil] at hl
    by_cases hcb : c = b
    · subst hcb
      simp only [if_true]
      refine ⟨I.low.size, ?_⟩
      rw [World.alloc_heap_new, getD_set_ne false (L.boxes c hc).1, hsu]
      rfl
    · have S := L.boxp c hc b hb hcb
      have hl' := hl.resolve_left S.aa
      obtain ⟨k1, k2⟩ := I.box c hc hl'
      rw [if_neg S.dd, getD_set_ne false S.sa.symm]
      exact ⟨k1, (Below.heap_alloc _ _ _ (Array.getElem?_eq_some_iff.1 k2).1).trans k2⟩
  · intro c hc e he h1 h2 hde
    rw [listed_set hil] at h1 h2
    by_cases hcb : c = b
    · subst hcb
      have heb : e ≠ c := fun h => hde (by rw [h])
      have S := L.boxp e he c hc heb
      obtain ⟨k1, k2⟩ := I.box e he (h2.resolve_left S.aa)
      have := (Array.getElem?_eq_some_iff.1 k2).1
      simp only [if_true, if_neg S.dd]
      omega
    · have S := L.boxp c hc b hb hcb
      by_cases heb : e = b
      · subst heb
        obtain ⟨k1, k2⟩ := I.box c hc (h1.resolve_left S.aa)
        have := (Array.getElem?_eq_some_iff.1 k2).1
        simp only [if_true, if_neg S.dd]
        omega
      · have S2 := L.boxp e he b hb heb
        simp only [if_neg S.dd, if_neg S2.dd]
        exact I.dist c hc e he (h1.resolve_left S.aa) (h2.resolve_left S2.aa) hde

theorem BoxLaw.step_store (L : BoxLaw P md ops qs bs W a0 aH) (I : BoxInv md ops qs bs W a0 aH listed β a w) {b : BoxD} (hb : b ∈ bs) (hr : b.is ∈ Region.ready md ops listed) :
    wpOp P ops Q b.is (fun a' w' => BoxInv md ops qs bs W a0 aH (listed.setIfInBounds b.is true) β a' w') a w := by
  have hcl := closed_set I.size I.closed hr
  obtain ⟨hun, oi, hoi, hall⟩ := mem_ready.1 hr
  have hil : b.is < listed.size := by rw [I.size]; exact (Array.getElem?_eq_some_iff.1 hoi).1
  obtain ⟨o, ho, hd, hop, hg⟩ := L.store b hb
  obtain rfl : oi = o := by rw [hoi] at ho; exact Option.some.inj ho
  have hunf := getD_both hun
  have hal : listed.getD b.ia false = true := by
    obtain ⟨e1, he1, hb1, hon⟩ := waitsB_spec ((L.boxes b hb).2 oi hoi)
    rw [← hon]; exact hall e1 he1 hb1
  obtain ⟨k1, k2⟩ := I.box b hb hal
  rw [hunf] at k2
  obtain ⟨w1, hw1, hp⟩ := L.runS b hb w (β b.d) k2
  have hx : a.eval b.x = aH.eval b.x := by
    cases hbx : b.x with
    | tmp t =>
      have ht : t ∈ oi.looksAt ops := List.mem_append_left _ (List.mem_filterMap.2 ⟨.tmp t, by rw [hop, hbx]; simp [Op.operands], rfl⟩)
      have : a.tmps[t]? = aH.tmps[t]? := by
        by_cases h1 : ∃ j ∈ qs, ∃ oj, ops[j]? = some oj ∧ oj.dst = some t
        · obtain ⟨j, hj, oj, hoj, hdj⟩ := h1
          obtain ⟨e1, he1, hb1, hon⟩ := waitsB_spec ((L.boxq b hb j hj).2.2.2 oj oi t hoj hoi hdj ht)
          have hl := hall e1 he1 hb1
          rw [hon] at hl
          exact I.q j hj oj t hoj hdj hl
        · have n1 : ∀ j ∈ qs, ∀ oj, ops[j]? = some oj → oj.dst ≠ some t := fun j hj oj hoj hdj => h1 ⟨j, hj, oj, hoj, hdj⟩
          by_cases hc : ∃ c ∈ bs, c.d = t
          · obtain ⟨c, hc, hcd⟩ := hc
            by_cases hcb : c = b
            · subst hcb
              exact absurd (by rw [hbx, hcd]) (L.xne c hb)
            · exact absurd (hcd ▸ ht) ((L.boxp b hb c hc (Ne.symm hcb)).l1 oi hoi)
          · rw [L.rest t n1]
            exact I.un t (fun j hj _ => n1 j hj) fun c hc' _ h => hc ⟨c, hc', h⟩
      simp only [Act.eval, Array.getD_eq_getD_getElem?, this]
    | _ => rfl
  unfold wpOp
  simp only [hoi]
  have hw : Region.wanted oi (yielded ops a.tmps) = true := by simp [Region.wanted, hg]
  simp only [hw, if_true]
  refine .inl ?_
  have hpt : a.eval (.tmp b.d) = .pointer (some ⟨β b.d, 0, none⟩) := by
    simp only [Act.eval, Array.getD_eq_getD_getElem?, I.bx b hb hal]; rfl
  have hrun : (execOp a.eval oi).run P w = .ok .skip w1 := by
    simp only [execOp, hop]
    rw [Sem.run_bind, hpt, hx, hw1]
    rfl
  simp only [Oper.wp, hrun, Oper.upon, hd]
  have iaq : ∀ c ∈ bs, listed.getD c.ia false = true ∨ c.ia = b.is → listed.getD c.ia false = true := fun c hc h => by
    rcases h with h | h
    · exact h
    · by_cases hcb : c = b
      · subst hcb; exact absurd h (L.boxes c hc).1
      · exact absurd h (L.boxp c hc b hb hcb).as
  have iaq' : ∀ c ∈ bs, (listed.setIfInBounds b.is true).getD c.ia false = true → listed.getD c.ia false = true := fun c hc h => by
    rw [listed_set hil] at h
    exact iaq c hc h.symm
  refine ⟨by simp [I.size], hcl, I.tsize, I.defers, ?_, ?_, ?_, ?_, ?_, ?_⟩
  · intro j hj oj t hoj hdj hl
    rw [listed_set hil] at hl
    exact I.q j hj oj t hoj hdj (hl.resolve_left (L.boxq b hb j hj).2.1)
  · exact fun c hc hl => I.bx c hc (iaq' c hc hl)
  · intro t h1 h2
    exact I.un t (fun j hj hl => h1 j hj ((listed_set hil).2 (.inr hl))) fun c hc hl => h2 c hc ((listed_set hil).2 (.inr hl))
  · refine ⟨hp.os.trans I.low.os, hp.tape.trans I.low.tape, hp.output.trans I.low.output, by rw [hp.size]; exact I.low.size, fun k hk => ?_⟩
    rw [hp.far k (by omega)]
    exact I.low.block k hk
  · intro c hc hl
    have hl' := iaq' c hc hl
    obtain ⟨m1, m2⟩ := I.box c hc hl'
    refine ⟨m1, ?_⟩
    by_cases hcb : c = b
    · subst hcb
      rw [hp.own, if_pos ((listed_set hil).2 (.inl rfl))]
    · have S := L.boxp c hc b hb hcb
      rw [hp.far _ (I.dist c hc b hb hl' hal S.dd), m2, getD_set_ne false S.ss.symm]
  · exact fun c hc e he h1 h2 hd => I.dist c hc e he (iaq' c hc h1) (iaq' e he h2) hd

/-- the frame behind all -/
def boxPut (bs : List BoxD) (β : Nat → Nat) (a : Act) : Act := bs.foldl (fun a b => a.put (some b.d) (.pointer (some ⟨β b.d, 0, none⟩))) a
theorem boxPut_get (β : Nat → Nat) (t : Nat) : ∀ (bs : List BoxD) (a : Act), (boxPut bs β a).tmps[t]? = if (∃ b ∈ bs, b.d = t) ∧ t < a.tmps.size then some (.pointer (some ⟨β t, 0, none⟩)) else a.tmps[t]?
  | [], a => by simp [boxPut]
  | b :: bs, a => by
    show (boxPut bs β (a.put (some b.d) _)).tmps[t]? = _
    rw [boxPut_get β t bs, put_size, put_get]
    have e : (∃ c ∈ b :: bs, c.d = t) ↔ (b.d = t ∨ ∃ c ∈ bs, c.d = t) := by simp
    simp only [e, Option.some.injEq]
    by_cases h1 : ∃ c ∈ bs, c.d = t <;> by_cases h2 : t < a.tmps.size <;> by_cases h3 : b.d = t <;> simp [h1, h2, h3, Array.getElem?_eq_none]
    all_goals (first | omega | (rw [Array.getElem?_eq_none (by omega)]))
theorem boxPut_size (β : Nat → Nat) : ∀ (bs : List BoxD) (a : Act), (boxPut bs β a).tmps.size = a.tmps.size ∧ (boxPut bs β a).defers = a.defers
  | [], a => ⟨rfl, rfl⟩
  | b :: bs, a => by
    have := boxPut_size β bs (a.put (some b.d) (.pointer (some ⟨β b.d, 0, none⟩)))
    rw [put_size, put_defers] at this
    exact this

theorem count_set {l : List Bool} : ∀ {i : Nat} (h : i < l.length), l[i]? = some false → (l.set i true).count false + 1 = l.count false := by
  induction l with
  | nil => intro i h; simp at h
  | cons x l ih =>
    intro i h hx
    cases i with
    | zero =>
      simp at hx
      subst hx
      simp
    | succ i =>
      have := ih (by simpa using h) (by simpa using hx)
      simp only [List.set_cons_succ, List.count_cons]
      omega

theorem BoxLaw.any (L : BoxLaw P md ops qs bs W a0 aH) (hQ : ∀ β w', Below W.heap.size W w' → (∀ b ∈ bs, W.heap.size ≤ β b.d ∧ w'.heap[β b.d]? = some b.ob1) → (∀ b ∈ bs, ∀ c ∈ bs, b.d ≠ c.d → β b.d ≠ β c.d) → Q .normal (boxPut bs β aH) w') :
    ∀ (fuel : Nat) (listed : Array Bool) (β : Nat → Nat) (a : Act) (w : World), listed.toList.count false ≤ fuel → BoxInv md ops qs bs W a0 aH listed β a w → wpAny P md ops Q fuel listed a w := by
  have fin : ∀ (listed : Array Bool) (β : Nat → Nat) (a : Act) (w : World), BoxInv md ops qs bs W a0 aH listed β a w → Region.ready md ops listed = [] → Q .normal a w := by
    intro listed β a w I h0
    have all : ∀ i, i < ops.size → listed.getD i true = true := by
      intro i
      induction i using Nat.strongRecOn with
      | _ i ih =>
        intro hi
        cases hl : listed.getD i true with
        | true => rfl
        | false =>
          exfalso
          have : i ∈ Region.ready md ops listed := mem_ready.2 ⟨hl, ops[i], Array.getElem?_eq_getElem hi, fun e he hb => by
            have hlt := L.back i _ (Array.getElem?_eq_getElem hi) e he hb
            have := ih e.on hlt (by omega)
            have hs : e.on < listed.size := by rw [I.size]; omega
            simp [hs] at this ⊢; exact this⟩
          rw [h0] at this; cases this
    have all' : ∀ i, i < ops.size → listed.getD i false = true := fun i hi => by
      have := all i hi
      have hs : i < listed.size := by rw [I.size]; exact hi
      simp [hs] at this ⊢; exact this
    have aia : ∀ b ∈ bs, listed.getD b.ia false = true := fun b hb => by
      obtain ⟨o, ho, _⟩ := L.alloc b hb; exact all' _ (Array.getElem?_eq_some_iff.1 ho).1
    have ais : ∀ b ∈ bs, listed.getD b.is false = true := fun b hb => by
      obtain ⟨o, ho, _⟩ := L.store b hb; exact all' _ (Array.getElem?_eq_some_iff.1 ho).1
    have ea : a = boxPut bs β aH := by
      have hsz := boxPut_size β bs aH
      have ht : a.tmps = (boxPut bs β aH).tmps := by
        apply Array.ext_getElem?
        intro t
        rw [boxPut_get]
        by_cases h1 : ∃ b ∈ bs, b.d = t
        · obtain ⟨b, hb, hd⟩ := h1
          rw [if_pos ⟨⟨b, hb, hd⟩, by rw [L.asize, ← hd]; exact L.dlt b hb⟩, ← hd]
          exact I.bx b hb (aia b hb)
        · rw [if_neg (fun h => h1 h.1)]
          by_cases h2 : ∃ j ∈ qs, ∃ oj, ops[j]? = some oj ∧ oj.dst = some t
          · obtain ⟨j, hj, oj, hoj, hd⟩ := h2
            exact I.q j hj oj t hoj hd (all' j (Array.getElem?_eq_some_iff.1 hoj).1)
          · have n1 : ∀ j ∈ qs, ∀ oj, ops[j]? = some oj → oj.dst ≠ some t := fun j hj oj hoj hd => h2 ⟨j, hj, oj, hoj, hd⟩
            rw [L.rest t n1]
            exact I.un t (fun j hj _ => n1 j hj) fun b hb _ h => h1 ⟨b, hb, h⟩
      have hdf : a.defers = (boxPut bs β aH).defers := by rw [hsz.2, L.adefers, I.defers]
      cases a
      cases hb : boxPut bs β aH
      rw [hb] at ht hdf
      simp only at ht hdf
      subst ht hdf
      rfl
    rw [ea]
    refine hQ β w I.low (fun b hb => ?_) fun b hb c hc hd => I.dist b hb c hc (aia b hb) (aia c hc) hd
    obtain ⟨k1, k2⟩ := I.box b hb (aia b hb)
    rw [ais b hb] at k2
    exact ⟨k1, k2⟩
  intro fuel
  induction fuel with
  | zero =>
    intro listed β a w hc I
    have h0 : Region.ready md ops listed = [] := by
      cases h : Region.ready md ops listed with
      | nil => rfl
      | cons i l =>
        exfalso
        have hi : i ∈ Region.ready md ops listed := by rw [h]; simp
        obtain ⟨hun, o, ho, _⟩ := mem_ready.1 hi
        have hs : i < listed.size := by rw [I.size]; exact (Array.getElem?_eq_some_iff.1 ho).1
        have : listed.toList.count false = 0 := by omega
        rw [List.count_eq_zero] at this
        apply this
        simp [hs] at hun
        rw [← hun]
        simp
    exact ⟨h0, fin listed β a w I h0⟩
  | succ fuel ih =>
    intro listed β a w hc I
    refine ⟨fin listed β a w I, fun i hi => ?_⟩
    obtain ⟨hun, o, ho, _⟩ := mem_ready.1 hi
    have hlt := (Array.getElem?_eq_some_iff.1 ho).1
    have hs : i < listed.size := by rw [I.size]; exact hlt
    have hc' : (listed.setIfInBounds i true).toList.count false ≤ fuel := by
      have := count_set (l := listed.toList) (i := i) (by simpa using hs) (by simp [hs] at hun; simp [hs, hun])
      rw [Array.toList_setIfInBounds]
      omega
    rcases L.cover i hlt with h | ⟨b, hb, rfl | rfl⟩
    · exact wpOp_mono (fun a' w' I' => ih _ β a' w' hc' I') (L.step_quiet I hi h)
    · exact wpOp_mono (fun a' w' ⟨β', I'⟩ => ih _ β' a' w' hc' I') (L.step_alloc I hb hi)
    · exact wpOp_mono (fun a' w' I' => ih _ β a' w' hc' I') (L.step_store I hb hi)

def pickM : List Bool → List Oper → List Oper
  | true :: m, o :: l => o :: pickM m l
  | false :: m, _ :: l => pickM m l
  | _, _ => []
def idxM : List Bool → Nat → List Nat
  | true :: m, k => k :: idxM m (k + 1)
  | false :: m, k => idxM m (k + 1)
  | [], _ => []
theorem pick_map {ops : Array Oper} (m : List Bool) : ∀ (l : List Oper) (k : Nat), m.length = l.length → (∀ j, l[j]? = ops[k + j]?) → (pickM m l).map some = (idxM m k).map (fun i => ops[i]?) := by
  induction m with
  | nil =>
    intro l k hl _
    cases l with
    | nil => rfl
    | cons o l => simp at hl
  | cons b m ih =>
    intro l k hl h
    cases l with
    | nil => simp at hl
    | cons o l =>
      have h1 := ih l (k + 1) (by simpa using hl) fun j => by have := h (j + 1); simpa [Nat.add_assoc, Nat.add_comm 1 j] using this
      have h0 : some o = ops[k]? := by simpa using h 0
      cases b with
      | true => rw [pickM, idxM, List.map_cons, List.map_cons, h1, h0]
      | false => rw [pickM, idxM, h1]

/-- **A region that draws its order, whose operations are quiet ones, allocations of variables, and stores into these**: the quiet ones are walked once, in the given order. -/
theorem wp_region_boxes {id : Nat} {Q : Exit → Act → World → Prop} {a0 aH : Act} {W : World} {x0 : Grew} {l : List Oper} (m : List Bool) (bs : List BoxD)
    (hm : P.follows .mixedOrders = true) (hlen : m.length = l.length) (hB : Region.boxB .any l.toArray (idxM m 0) (bs.map BoxD.key) = true)
    (hal : ∀ b ∈ bs, ∃ o, l.toArray[b.ia]? = some o ∧ o.dst = some b.d ∧ o.op = .alloc b.T ∧ o.guard = none)
    (hst : ∀ b ∈ bs, ∃ o, l.toArray[b.is]? = some o ∧ o.dst = none ∧ o.op = .store b.T (.tmp b.d) b.x ∧ o.guard = none)
    (hxd : ∀ b ∈ bs, b.x ≠ .tmp b.d ∧ b.d < a0.tmps.size)
    (hA : ∀ b ∈ bs, ∀ w, (Instr.alloc b.T true (.tuple #[])).run P w = .ok (.pointer (some ⟨w.heap.size, 0, none⟩)) (w.alloc b.ob0))
    (hw : ∀ S : World → Prop, StableW S → (∃ x, S (gw W x)) → wpQuiet P l.toArray (fun w' => ∃ x : GrewS W S, w' = gw W x.g) (fun a' => a' = aH) (pickM m l) a0)
    (hS : ∀ b ∈ bs, ∀ w B, w.heap[B]? = some b.ob0 → ∃ w1, (Instr.storeAt b.T (.pointer (some ⟨B, 0, none⟩)) (aH.eval b.x)).run P w = .ok () w1 ∧ Puts w w1 B b.ob1)
    (hQ : ∀ β w', Below W.heap.size W w' → (∀ b ∈ bs, W.heap.size ≤ β b.d ∧ w'.heap[β b.d]? = some b.ob1) → (∀ b ∈ bs, ∀ c ∈ bs, b.d ≠ c.d → β b.d ≠ β c.d) → Q .normal (boxPut bs β aH) w') :
    (Code.region id l.toArray true).wp P Q a0 (gw W x0) := by
  simp only [Region.boxB, Bool.and_eq_true] at hB
  obtain ⟨⟨⟨⟨⟨hsel, hcov⟩, hback⟩, hqs⟩, hbq⟩, hbx⟩ := hB
  have hpm := pick_map (ops := l.toArray) m l 0 hlen (fun j => by simp)
  have mem : ∀ {js : List Nat} {os : List Oper}, os.map some = js.map (fun i => l.toArray[i]?) → ∀ t : Nat, (∀ j ∈ js, ∀ oj, l.toArray[j]? = some oj → oj.dst ≠ some t) → ∀ o ∈ os, o.dst ≠ some t := by
    intro js os e t h o ho
    have : some o ∈ js.map (fun i => l.toArray[i]?) := by rw [← e]; exact List.mem_map_of_mem ho
    obtain ⟨j, hj, hjo⟩ := List.mem_map.1 this
    exact h j hj o hjo
  have h0 := hw (fun _ => True) (fun _ _ _ _ => trivial) ⟨x0, trivial⟩
  obtain ⟨e1, e2, e3⟩ := quiet_end _ _ h0
  obtain ⟨bx1, bx2⟩ := boxesB_spec bs hbx
  have L : BoxLaw P .any l.toArray (idxM m 0) bs W a0 aH := by
    refine ⟨hsel, fun i hi => ?_, fun i o ho e he hb => ?_, fun pre i post e => quietsB_spec pre i post (by rw [← e]; exact hqs), fun b hb i hi => ?_, bx1, fun b hb c hc hne => pairwise_of (fun _ _ h => h.symm) bx2 b hb c hc hne,
      hal, hst, hA, hS, fun b hb => (hxd b hb).1, fun b hb => (hxd b hb).2, e1, e2, fun t ht => e3 t (mem hpm t ht), fun S hSt hx pre i post e => ?_⟩
    · have := List.all_eq_true.1 hcov i (List.mem_range.2 hi)
      simp only [Bool.or_eq_true, List.contains_iff_mem, List.any_eq_true, beq_iff_eq] at this
      rcases this with h | ⟨k, hk, h⟩
      · exact .inl h
      · obtain ⟨b, hb, rfl⟩ := List.mem_map.1 hk
        exact .inr ⟨b, hb, h.imp Eq.symm Eq.symm⟩
    · have := List.all_eq_true.1 hback i (List.mem_range.2 (Array.getElem?_eq_some_iff.1 ho).1)
      simp only [Region.backB, ho, Array.all_eq_true_iff_forall_mem] at this
      have h := this e he
      simp only [hb, Bool.not_true, Bool.false_or, decide_eq_true_eq] at h
      exact h
    · exact boxQB_spec (List.all_eq_true.1 (List.all_eq_true.1 hbq b.key (List.mem_map_of_mem hb)) i hi)
    · rw [e, List.map_append, List.map_cons] at hpm
      obtain ⟨p1, p2, q0, q1, q2⟩ := List.map_eq_append_iff.1 hpm
      obtain ⟨o, p3, r0, r1, r2⟩ := List.map_eq_cons_iff.1 q2
      subst r0
      have hwS := hw S hSt hx
      rw [q0] at hwS
      obtain ⟨ap, v, y, _, z2, z3, z4⟩ := quiet_at p1 o p3 a0 hwS
      exact ⟨o, ap, v, r1.symm, y, fun t ht => z2 t (mem q1 t ht), fun t hd ht => z3 t hd (mem r2 t ht), fun t hd ht => z4 t hd (mem r2 t ht)⟩
  refine wp_region_any hm (L.any hQ _ _ (fun _ => 0) _ _ (by simp) ?_)
  have nl : ∀ j, (Array.replicate l.toArray.size false).getD j false = true → False := fun j h => by rw [getD_replicate_false] at h; cases h
  exact ⟨by simp, fun j _ _ h => absurd h (nl j), rfl, rfl, fun i _ _ _ _ _ h => absurd h (nl i), fun b _ h => absurd h (nl b.ia), fun _ _ _ => rfl, below_gw W ⟨x0.bs, x0.d + 1⟩ |>.trans (by exact Below.refl _ _), fun b _ h => absurd h (nl b.ia), fun b _ _ _ h => absurd h (nl b.ia)⟩

theorem puts_row {T : TypeId} {old cs : Array Value} (hi : (P.info? T).map (·.size) = some cs.size) (ho : old.size = cs.size) (h1 : cs.all (·.oneCell') = true) (w : World) (B : Nat) (h : w.heap[B]? = some (.cells old T (0, 0))) :
    ∃ w1, (Instr.storeAt T (.pointer (some ⟨B, 0, none⟩)) (.agg cs)).run P w = .ok () w1 ∧ Puts w w1 B (.cells cs T (0, 0)) :=
  ⟨w.setRow B cs, by simp only [Instr.storeAt, Instr.sureAddr, Sem.run_bind, Sem.run_pure, Result.andThen_ok]; exact run_storeVar_row w B T T old cs h hi ho h1,
    setRow_heap w B old cs T _ h, fun k hk => setRow_other w B k cs hk, by simp, rfl, rfl, rfl⟩
theorem alloc_row {T : TypeId} {old : Array Value} {n : Nat} (hz : (P.info? T).map (fun i => (i.zero, i.size)) = some (some (.agg old), n)) (hs : old.size = n) (w : World) :
    (Instr.alloc T true (.tuple #[])).run P w = .ok (.pointer (some ⟨w.heap.size, 0, none⟩)) (w.alloc (.cells old T)) := by
  obtain ⟨h1, h2⟩ := zero_of_info hz
  cases hq : P.info? T with
  | none => simp [hq] at h2
  | some i =>
    have hsz : old.size = i.size := by simp [hq] at h2; omega
    simp [Instr.alloc, h1 w, newVar, newRow, Value.cells, Result.andThen]

theorem gw_self (w : World) : gw w ⟨#[], w.drawn⟩ = w := by simp [gw]

/-- One variable. -/
theorem wp_region_box1 {id : Nat} {Q : Exit → Act → World → Prop} {a0 : Act} {W : World} {l : List Oper} (m : List Bool) (ia is : Nat) {d v : Tmp} {T t1 t2 : TypeId} {p1 p2 : String} {f1 f2 : Array Edge} {n : Nat} (old cs : Array Value)
    (hm : P.follows .mixedOrders = true) (hlen : m.length = l.length) (hal : l[ia]? = some ⟨some d, .alloc T, t1, p1, f1, none⟩) (hst : l[is]? = some ⟨none, .store T (.tmp d) (.tmp v), t2, p2, f2, none⟩)
    (hB : Region.boxB .any l.toArray (idxM m 0) [(ia, is, d)] = true) (hvd : (v == d) = false) (hd : Nat.ble (d + 1) a0.tmps.size = true)
    (hz : (P.info? T).map (fun i => (i.zero, i.size)) = some (some (.agg old), n)) (hs1 : old.size = n) (hs2 : cs.size = n) (h1 : cs.all (·.oneCell') = true)
    (h : ∃ aH, (∀ S : World → Prop, StableW S → (∃ x, S (gw W x)) → wpQuiet P l.toArray (fun w' => ∃ x : GrewS W S, w' = gw W x.g) (fun a' => a' = aH) (pickM m l) a0) ∧
      aH.eval (.tmp v) = .agg cs ∧
      ∀ B w', W.heap.size ≤ B → w'.heap[B]? = some (.cells cs T (0, 0)) → Below W.heap.size W w' → Q .normal (aH.put (some d) (.pointer (some ⟨B, 0, none⟩))) w') :
    (Code.region id l.toArray true).wp P Q a0 W := by
  obtain ⟨aH, hw, hv, hQ⟩ := h
  have hd2 : d < a0.tmps.size := Nat.le_of_ble_eq_true hd
  have hvd2 : v ≠ d := by simpa using hvd
  have hxd2 : Operand.tmp v ≠ .tmp d := fun h => hvd2 (by cases h; rfl)
  have := wp_region_boxes (P := P) (id := id) (Q := Q) (a0 := a0) (aH := aH) (W := W) (x0 := ⟨#[], W.drawn⟩) (l := l) m [⟨ia, is, d, T, .tmp v, .cells old T (0, 0), .cells cs T (0, 0)⟩] hm hlen hB
    (fun b hb => by obtain rfl := List.mem_singleton.1 hb; exact ⟨_, (by simpa using hal), rfl, rfl, rfl⟩) (fun b hb => by obtain rfl := List.mem_singleton.1 hb; exact ⟨_, (by simpa using hst), rfl, rfl, rfl⟩)
    (fun b hb => by obtain rfl := List.mem_singleton.1 hb; exact ⟨hxd2, hd2⟩)
    (fun b hb w => by obtain rfl := List.mem_singleton.1 hb; exact alloc_row hz hs1 w) hw
    (fun b hb w B hB => by
      obtain rfl := List.mem_singleton.1 hb
      simp only at hB ⊢
      rw [hv]
      exact puts_row (by rw [(zero_of_info hz).2, hs2]) (hs1.trans hs2.symm) h1 w B hB)
    (fun β w' hb h1 _ => hQ (β d) w' (h1 _ (List.mem_singleton_self _)).1 (h1 _ (List.mem_singleton_self _)).2 hb)
  rwa [gw_self] at this

/-- Two variables. -/
theorem wp_region_box2 {id : Nat} {Q : Exit → Act → World → Prop} {a0 : Act} {W : World} {l : List Oper} (m : List Bool) (ia is ja js : Nat) {d v d' v' : Tmp} {T T' t1 t2 t3 t4 : TypeId} {p1 p2 p3 p4 : String} {f1 f2 f3 f4 : Array Edge} {n n' : Nat} (old cs old' cs' : Array Value)
    (hm : P.follows .mixedOrders = true) (hlen : m.length = l.length) (hal : l[ia]? = some ⟨some d, .alloc T, t1, p1, f1, none⟩) (hst : l[is]? = some ⟨none, .store T (.tmp d) (.tmp v), t2, p2, f2, none⟩)
    (hal' : l[ja]? = some ⟨some d', .alloc T', t3, p3, f3, none⟩) (hst' : l[js]? = some ⟨none, .store T' (.tmp d') (.tmp v'), t4, p4, f4, none⟩)
    (hB : Region.boxB .any l.toArray (idxM m 0) [(ia, is, d), (ja, js, d')] = true) (hvd : (v == d) = false) (hd : Nat.ble (d + 1) a0.tmps.size = true) (hvd' : (v' == d') = false) (hd' : Nat.ble (d' + 1) a0.tmps.size = true) (hdd : (d == d') = false)
    (hz : (P.info? T).map (fun i => (i.zero, i.size)) = some (some (.agg old), n)) (hs1 : old.size = n) (hs2 : cs.size = n) (h1 : cs.all (·.oneCell') = true)
    (hz' : (P.info? T').map (fun i => (i.zero, i.size)) = some (some (.agg old'), n')) (hs1' : old'.size = n') (hs2' : cs'.size = n') (h1' : cs'.all (·.oneCell') = true)
    (h : ∃ aH, (∀ S : World → Prop, StableW S → (∃ x, S (gw W x)) → wpQuiet P l.toArray (fun w' => ∃ x : GrewS W S, w' = gw W x.g) (fun a' => a' = aH) (pickM m l) a0) ∧
      aH.eval (.tmp v) = .agg cs ∧ aH.eval (.tmp v') = .agg cs' ∧
      ∀ B B' w', W.heap.size ≤ B → W.heap.size ≤ B' → B ≠ B' → w'.heap[B]? = some (.cells cs T (0, 0)) → w'.heap[B']? = some (.cells cs' T' (0, 0)) → Below W.heap.size W w' → Q .normal ((aH.put (some d) (.pointer (some ⟨B, 0, none⟩))).put (some d') (.pointer (some ⟨B', 0, none⟩))) w') :
    (Code.region id l.toArray true).wp P Q a0 W := by
  obtain ⟨aH, hw, hv, hv', hQ⟩ := h
  have hdd2 : d ≠ d' := by simpa using hdd
  have hd2 : d < a0.tmps.size := Nat.le_of_ble_eq_true hd
  have hvd2 : v ≠ d := by simpa using hvd
  have hxd2 : Operand.tmp v ≠ .tmp d := fun h => hvd2 (by cases h; rfl)
  have hd2' : d' < a0.tmps.size := Nat.le_of_ble_eq_true hd'
  have hvd2' : v' ≠ d' := by simpa using hvd'
  have hxd2' : Operand.tmp v' ≠ .tmp d' := fun h => hvd2' (by cases h; rfl)
  have two : ∀ {b x y : BoxD}, b ∈ [x, y] → b = x ∨ b = y := fun h => by simpa using h
  have := wp_region_boxes (P := P) (id := id) (Q := Q) (a0 := a0) (aH := aH) (W := W) (x0 := ⟨#[], W.drawn⟩) (l := l) m [⟨ia, is, d, T, .tmp v, .cells old T (0, 0), .cells cs T (0, 0)⟩, ⟨ja, js, d', T', .tmp v', .cells old' T' (0, 0), .cells cs' T' (0, 0)⟩] hm hlen hB
    (fun b hb => by
      rcases two hb with rfl | rfl
      · exact ⟨_, (by simpa using hal), rfl, rfl, rfl⟩
      · exact ⟨_, (by simpa using hal'), rfl, rfl, rfl⟩)
    (fun b hb => by
      rcases two hb with rfl | rfl
      · exact ⟨_, (by simpa using hst), rfl, rfl, rfl⟩
      · exact ⟨_, (by simpa using hst'), rfl, rfl, rfl⟩)
    (fun b hb => by
      rcases two hb with rfl | rfl
      · exact ⟨hxd2, hd2⟩
      · exact ⟨hxd2', hd2'⟩)
    (fun b hb w => by
      rcases two hb with rfl | rfl
      · exact alloc_row hz hs1 w
      · exact alloc_row hz' hs1' w) hw
    (fun b hb w B hB => by
      rcases two hb with rfl | rfl
      · simp only at hB ⊢
        rw [hv]
        exact puts_row (by rw [(zero_of_info hz).2, hs2]) (hs1.trans hs2.symm) h1 w B hB
      · simp only at hB ⊢
        rw [hv']
        exact puts_row (by rw [(zero_of_info hz').2, hs2']) (hs1'.trans hs2'.symm) h1' w B hB)
    (fun β w' hb h1 h2 => hQ (β d) (β d') w' (h1 _ (List.mem_cons_self)).1 (h1 _ (List.mem_cons_of_mem _ (List.mem_singleton_self _))).1
      (h2 _ (List.mem_cons_self) _ (List.mem_cons_of_mem _ (List.mem_singleton_self _)) hdd2) (h1 _ (List.mem_cons_self)).2 (h1 _ (List.mem_cons_of_mem _ (List.mem_singleton_self _))).2 hb)
  rwa [gw_self] at this
end
end Go
