/- A law for regions that draw their order and hold operations that make memory, whose values are known by a property alone (an append onto a slice just made, a call that hands back a new slice), next to operations that leave what there was as it was. No conditions beyond each theorem's own. -/
import Derived.Test.YtjgnafhbeekebaaGreatAb
import Derived.Deep.RegionLawGrows
set_option linter.unusedVariables false
set_option linter.unusedSimpArgs false
set_option linter.unusedSectionVars false
set_option linter.constructorNameAsVariable false
namespace Go
open Go.RowKit

/-- an operation that makes something: its number, its temporary, what holds of its value -/
structure LooseD where
  i : Nat
  d : Tmp
  Φ : Value → World → Prop

section
variable {P : Program} {ops : Array Oper} {md : Region.Mode}

def Region.looseQB (md : Region.Mode) (ops : Array Oper) (b : Nat × Tmp) (i : Nat) : Bool :=
  match ops[i]?, ops[b.1]? with
  | some o, some s => decide (i ≠ b.1) && o.dst != some b.2 && !(o.looksAt ops).contains b.2 && Region.readB md ops i o s
  | _, _ => false
def Region.loosePB (md : Region.Mode) (ops : Array Oper) (b c : Nat × Tmp) : Bool :=
  match ops[b.1]?, ops[c.1]? with
  | some s, some r => decide (b.1 ≠ c.1) && decide (b.2 ≠ c.2) && (!(r.looksAt ops).contains b.2 || Region.waitsB md r b.1) && (!(s.looksAt ops).contains c.2 || Region.waitsB md s c.1)
  | _, _ => false
def Region.looseSB (ops : Array Oper) (b : Nat × Tmp) : Bool :=
  match ops[b.1]? with
  | some s => s.dst == some b.2 && !(s.looksAt ops).contains b.2 && s.guard.isNone
  | none => false
def Region.loosesB (md : Region.Mode) (ops : Array Oper) : List (Nat × Tmp) → Bool
  | [] => true
  | b :: rest => Region.looseSB ops b && rest.all (Region.loosePB md ops b) && Region.loosesB md ops rest
/-- the Bool over a region -/
def Region.looseB (md : Region.Mode) (ops : Array Oper) (qs : List Nat) (bs : List (Nat × Tmp)) : Bool :=
  Region.noSelect ops && (List.range ops.size).all (fun i => qs.contains i || bs.any (fun b => b.1 == i)) && (List.range ops.size).all (Region.backB md ops) &&
  Region.quietsB md ops qs && bs.all (fun b => qs.all (Region.looseQB md ops b)) && Region.loosesB md ops bs

def LooseD.key (b : LooseD) : Nat × Tmp := (b.i, b.d)

structure LooseS (md : Region.Mode) (ops : Array Oper) (b c : LooseD) : Prop where
  ii : b.i ≠ c.i
  dd : b.d ≠ c.d
  l1 : ∀ r, ops[c.i]? = some r → b.d ∈ r.looksAt ops → Region.waitsB md r b.i = true
  l2 : ∀ s, ops[b.i]? = some s → c.d ∈ s.looksAt ops → Region.waitsB md s c.i = true
theorem LooseS.symm {b c : LooseD} (h : LooseS md ops b c) : LooseS md ops c b := ⟨h.ii.symm, h.dd.symm, h.l2, h.l1⟩

theorem loosesB_spec : ∀ (bs : List LooseD), Region.loosesB md ops (bs.map LooseD.key) = true →
    (∀ b ∈ bs, ∃ s, ops[b.i]? = some s ∧ s.dst = some b.d ∧ b.d ∉ s.looksAt ops ∧ s.guard = none) ∧ bs.Pairwise (LooseS md ops)
  | [], _ => ⟨fun _ h => (by cases h), .nil⟩
  | b :: rest, h => by
    simp only [List.map_cons, Region.loosesB, Bool.and_eq_true, List.all_eq_true] at h
    obtain ⟨i1, i2⟩ := loosesB_spec rest h.2
    obtain ⟨⟨h1, h2⟩, _⟩ := h
    have own : ∃ s, ops[b.i]? = some s ∧ s.dst = some b.d ∧ b.d ∉ s.looksAt ops ∧ s.guard = none := by
      cases hs : ops[b.key.1]? with
      | none => simp [Region.looseSB, hs] at h1
      | some s =>
        simp only [Region.looseSB, hs, Bool.and_eq_true, beq_iff_eq, Option.isNone_iff_eq_none] at h1
        exact ⟨s, hs, h1.1.1, by simpa [LooseD.key] using h1.1.2, h1.2⟩
    refine ⟨fun c hc => ?_, .cons (fun c hc => ?_) i2⟩
    · rcases List.mem_cons.1 hc with e | hc
      · rw [e]; exact own
      · exact i1 c hc
    · have q := h2 c.key (List.mem_map_of_mem hc)
      cases hs : ops[b.key.1]? with
      | none => simp [Region.loosePB, hs] at q
      | some s =>
        cases hr : ops[c.key.1]? with
        | none => simp [Region.loosePB, hs, hr] at q
        | some r =>
          simp only [Region.loosePB, hs, hr, Bool.and_eq_true, decide_eq_true_eq] at q
          obtain ⟨⟨⟨q1, q2⟩, q3⟩, q4⟩ := q
          refine ⟨q1, q2, fun r' hr' hm => ?_, fun s' hs' hm => ?_⟩
          · have e : ops[c.i]? = some r := hr
            obtain rfl : r = r' := by rw [e] at hr'; exact Option.some.inj hr'
            simp only [Bool.or_eq_true] at q3
            rcases q3 with q3 | q3
            · have : ¬ b.d ∈ r.looksAt ops := by simpa [LooseD.key] using q3
              exact absurd hm this
            · exact q3
          · have e : ops[b.i]? = some s := hs
            obtain rfl : s = s' := by rw [e] at hs'; exact Option.some.inj hs'
            simp only [Bool.or_eq_true] at q4
            rcases q4 with q4 | q4
            · have : ¬ c.d ∈ s.looksAt ops := by simpa [LooseD.key] using q4
              exact absurd hm this
            · exact q4

theorem looseQB_spec {b : LooseD} {i : Nat} (h : Region.looseQB md ops b.key i = true) : i ≠ b.i ∧ (∀ o, ops[i]? = some o → o.dst ≠ some b.d ∧ b.d ∉ o.looksAt ops) ∧
    ∀ o s t, ops[i]? = some o → ops[b.i]? = some s → o.dst = some t → t ∈ s.looksAt ops → Region.waitsB md s i = true := by
  unfold Region.looseQB at h
  cases hi : ops[i]? with
  | none => simp [hi] at h
  | some o =>
    cases hj : ops[b.key.1]? with
    | none => simp [hi, hj] at h
    | some s =>
      simp only [hi, hj, Bool.and_eq_true, decide_eq_true_eq, bne_iff_ne] at h
      obtain ⟨⟨⟨h1, h3⟩, h4⟩, h5⟩ := h
      refine ⟨h1, fun o' ho => ?_, fun o' s' t ho hs hd ht => ?_⟩
      · obtain rfl : o = o' := Option.some.inj ho
        exact ⟨h3, by simpa [LooseD.key] using h4⟩
      · obtain rfl : o = o' := Option.some.inj ho
        have hj' : ops[b.i]? = some s := hj
        obtain rfl : s = s' := by rw [hj'] at hs; exact Option.some.inj hs
        exact readB_spec h5 hd ht

/-- the state between two operations -/
structure LooseInv (md : Region.Mode) (ops : Array Oper) (qs : List Nat) (bs : List LooseD) (W : World) (a0 aH : Act) (listed : Array Bool) (β : Nat → Value) (a : Act) (w : World) : Prop where
  size : listed.size = ops.size
  closed : ∀ j oj, ops[j]? = some oj → listed.getD j false = true → ∀ e ∈ oj.after, Region.binds md e = true → listed.getD e.on false = true
  tsize : a.tmps.size = a0.tmps.size
  defers : a.defers = a0.defers
  q : ∀ i ∈ qs, ∀ o t, ops[i]? = some o → o.dst = some t → listed.getD i false = true → a.tmps[t]? = aH.tmps[t]?
  bx : ∀ b ∈ bs, listed.getD b.i false = true → a.tmps[b.d]? = some (β b.d) ∧ b.Φ (β b.d) w
  un : ∀ t, (∀ i ∈ qs, listed.getD i false = true → ∀ o, ops[i]? = some o → o.dst ≠ some t) → (∀ b ∈ bs, listed.getD b.i false = true → b.d ≠ t) → a.tmps[t]? = a0.tmps[t]?
  low : Below W.heap.size W w

/-- all that the law asks -/
structure LooseLaw (P : Program) (md : Region.Mode) (ops : Array Oper) (qs : List Nat) (bs : List LooseD) (W : World) (a0 aH : Act) (Q : Exit → Act → World → Prop) : Prop where
  sel : Region.noSelect ops = true
  cover : ∀ i, i < ops.size → i ∈ qs ∨ ∃ b ∈ bs, i = b.i
  back : ∀ i o, ops[i]? = some o → ∀ e ∈ o.after, Region.binds md e = true → e.on < i
  quiet : ∀ pre i post, qs = pre ++ i :: post → (∀ o t, ops[i]? = some o → o.dst = some t → t ∉ o.looksAt ops) ∧ (∀ j ∈ pre, PairS md ops j i) ∧ (∀ j ∈ post, PairS md ops i j)
  boxq : ∀ b ∈ bs, ∀ i ∈ qs, i ≠ b.i ∧ (∀ o, ops[i]? = some o → o.dst ≠ some b.d ∧ b.d ∉ o.looksAt ops) ∧ ∀ o s t, ops[i]? = some o → ops[b.i]? = some s → o.dst = some t → t ∈ s.looksAt ops → Region.waitsB md s i = true
  own : ∀ b ∈ bs, ∃ s, ops[b.i]? = some s ∧ s.dst = some b.d ∧ b.d ∉ s.looksAt ops ∧ s.guard = none
  boxp : ∀ b ∈ bs, ∀ c ∈ bs, b.i ≠ c.i → LooseS md ops b c
  inj : ∀ b ∈ bs, ∀ c ∈ bs, b.i = c.i → b = c
  stable : ∀ b ∈ bs, ∀ v, StableW (b.Φ v)
  run : ∀ b ∈ bs, ∀ o, ops[b.i]? = some o → ∀ a w, Below W.heap.size W w → (∀ t ∈ o.looksAt ops, (∀ c ∈ bs, c.d ≠ t) → a.tmps[t]? = aH.tmps[t]?) →
    (∀ c ∈ bs, c.d ∈ o.looksAt ops → ∃ v, a.tmps[c.d]? = some v ∧ c.Φ v w) →
    o.wp P a w (fun a' w' => ∃ v, a' = a.put o.dst v ∧ Below w.heap.size w w' ∧ b.Φ v w') Q ∨ (o.asks P a w ∧ LetsOut Q)
  dlt : ∀ b ∈ bs, b.d < a0.tmps.size
  asize : aH.tmps.size = a0.tmps.size
  adefers : aH.defers = a0.defers
  rest : ∀ t, (∀ i ∈ qs, ∀ o, ops[i]? = some o → o.dst ≠ some t) → aH.tmps[t]? = a0.tmps[t]?
  walk : ∀ S : World → Prop, StableW S → (∃ x, S (gw W x)) → ∀ pre i post, qs = pre ++ i :: post → ∃ o ap v, ops[i]? = some o ∧ YieldsIn P ops (fun w' => ∃ x : GrewS W S, w' = gw W x.g) o v ap ∧
    (∀ t, (∀ j ∈ pre, ∀ oj, ops[j]? = some oj → oj.dst ≠ some t) → ap.tmps[t]? = a0.tmps[t]?) ∧
    (∀ t, o.dst ≠ some t → (∀ j ∈ post, ∀ oj, ops[j]? = some oj → oj.dst ≠ some t) → ap.tmps[t]? = aH.tmps[t]?) ∧
    (∀ t, o.dst = some t → (∀ j ∈ post, ∀ oj, ops[j]? = some oj → oj.dst ≠ some t) → aH.tmps[t]? = if t < a0.tmps.size then some v else none)

variable {qs : List Nat} {bs : List LooseD} {W : World} {a0 aH : Act} {listed : Array Bool} {β : Nat → Value} {a : Act} {w : World} {Q : Exit → Act → World → Prop}

theorem LooseLaw.distinct (L : LooseLaw P md ops qs bs W a0 aH Q) {i j : Nat} (hi : i ∈ qs) (hj : j ∈ qs) (hne : i ≠ j) {oi oj : Oper} {t : Nat} (h1 : ops[i]? = some oi) (h2 : ops[j]? = some oj) (ht : oi.dst = some t) : oj.dst ≠ some t := by
  obtain ⟨pre, post, e⟩ := mem_split hi
  obtain ⟨_, l1, l2⟩ := L.quiet pre i post e
  rw [e] at hj
  rcases List.mem_append.1 hj with h | h
  · intro hc
    exact (l1 j h).dst oj oi t h2 h1 hc ht
  · rcases List.mem_cons.1 h with rfl | h
    · exact absurd rfl hne
    · exact (l2 j h).dst oi oj t h1 h2 ht

theorem LooseLaw.step_quiet (L : LooseLaw P md ops qs bs W a0 aH Q) (I : LooseInv md ops qs bs W a0 aH listed β a w) {i : Nat} (hr : i ∈ Region.ready md ops listed) (hq : i ∈ qs) :
    wpOp P ops Q i (fun a' w' => LooseInv md ops qs bs W a0 aH (listed.setIfInBounds i true) β a' w') a w := by
  have hcl := closed_set I.size I.closed hr
  obtain ⟨hun, oi, hoi, hall⟩ := mem_ready.1 hr
  have hil : i < listed.size := by rw [I.size]; exact (Array.getElem?_eq_some_iff.1 hoi).1
  obtain ⟨pre, post, e⟩ := mem_split hq
  obtain ⟨hself, hpre, hpost⟩ := L.quiet pre i post e
  have hS : StableW (fun w' => ∀ b ∈ bs, listed.getD b.i false = true → b.Φ (β b.d) w') := fun w1 w2 hb h b hbm hl => L.stable b hbm _ _ _ hb (h b hbm hl)
  obtain ⟨x, hx⟩ := gw_of_below I.low
  obtain ⟨o, ap, v, ho, hy, f1, f2, f3⟩ := L.walk _ hS ⟨x, hx ▸ fun b hb hl => (I.bx b hb hl).2⟩ pre i post e
  obtain rfl : oi = o := by rw [hoi] at ho; exact Option.some.inj ho
  have hag : ∀ t ∈ oi.looksAt ops, a.tmps[t]? = ap.tmps[t]? := by
    intro t ht
    have nd : oi.dst ≠ some t := fun h => hself oi t hoi h ht
    have nb : ∀ b ∈ bs, b.d ≠ t := fun b hb h => ((L.boxq b hb i hq).2.1 oi hoi).2 (h ▸ ht)
    by_cases h1 : ∃ j ∈ pre, ∃ oj, ops[j]? = some oj ∧ oj.dst = some t
    · obtain ⟨j, hj, oj, hoj, hd⟩ := h1
      obtain ⟨e1, he1, hb1, hon⟩ := waitsB_spec ((hpre j hj).fwd oj oi t hoj hoi hd ht)
      have hl := hall e1 he1 hb1
      rw [hon] at hl
      have hjq : j ∈ qs := by rw [e]; exact List.mem_append_left _ hj
      rw [I.q j hjq oj t hoj hd hl, f2 t nd fun k hk ok hok => L.distinct hjq (by rw [e]; simp [hk]) (fun hjk => ?_) hoj hok hd]
      subst hjk
      obtain ⟨pre1, mid, e2⟩ := mem_split hj
      have q := (L.quiet pre1 j (mid ++ i :: post) (by rw [e, e2]; simp)).2.2 j (by simp [hk])
      exact q.ne rfl
    · have n1 : ∀ j ∈ pre, ∀ oj, ops[j]? = some oj → oj.dst ≠ some t := fun j hj oj hoj hd => h1 ⟨j, hj, oj, hoj, hd⟩
      rw [f1 t n1]
      refine I.un t (fun j hj hl oj hoj hd => ?_) fun b hb _ => nb b hb
      rw [e] at hj
      rcases List.mem_append.1 hj with h | h
      · exact n1 j h oj hoj hd
      · rcases List.mem_cons.1 h with rfl | h
        · obtain rfl : oi = oj := by rw [hoi] at hoj; exact Option.some.inj hoj
          exact nd hd
        · obtain ⟨e1, he1, hb1, hon⟩ := waitsB_spec ((hpost j h).bwd oi oj t hoi hoj hd ht)
          have := I.closed j oj hoj hl e1 he1 hb1
          rw [hon, getD_both hun] at this
          cases this
  have hsel := Region.noSelect_spec L.sel
  obtain ⟨g1, g2⟩ := exec_agree (fun cs b => hsel i oi cs b hoi) hag
  have hy' := hy.of_same g1 g2
  have hqop : qOp P ops (fun w' => ∃ y : GrewS W (fun w' => ∀ b ∈ bs, listed.getD b.i false = true → b.Φ (β b.d) w'), w' = gw W y.g) i (fun a' => a' = a.put oi.dst v) a :=
    hy'.qOp hoi rfl
  refine wpOp_of_qOp (C := fun w' => ∃ y : GrewS W (fun w' => ∀ b ∈ bs, listed.getD b.i false = true → b.Φ (β b.d) w'), w' = gw W y.g) ⟨⟨x, hx ▸ fun b hb hl => (I.bx b hb hl).2⟩, hx⟩ ?_ hqop
  rintro a' w' ⟨y, rfl⟩ rfl
  have hys := y.s
  refine ⟨by simp [I.size], hcl, by rw [put_size]; exact I.tsize, by rw [put_defers]; exact I.defers, ?_, ?_, ?_, below_gw W y.g⟩
  · intro j hj oj t hoj hd hl
    rw [put_get]
    by_cases hji : j = i
    · subst hji
      obtain rfl : oi = oj := by rw [hoi] at hoj; exact Option.some.inj hoj
      rw [if_pos hd, I.tsize]
      exact (f3 t hd fun k hk ok hok => (hpost k hk).dst oi ok t hoi hok hd).symm
    · rw [if_neg (L.distinct hj hq hji hoj hoi hd)]
      rw [listed_set hil] at hl
      exact I.q j hj oj t hoj hd (hl.resolve_left hji)
  · intro b hb hl
    have hb1 := L.boxq b hb i hq
    rw [put_get, if_neg (hb1.2.1 oi hoi).1]
    rw [listed_set hil] at hl
    have hl' := hl.resolve_left (Ne.symm hb1.1)
    exact ⟨(I.bx b hb hl').1, hys b hb hl'⟩
  · intro t h1 h2
    have nd : oi.dst ≠ some t := h1 i hq ((listed_set hil).2 (.inl rfl)) oi hoi
    rw [put_get, if_neg nd]
    exact I.un t (fun j hj hl => h1 j hj ((listed_set hil).2 (.inr hl))) fun b hb hl => h2 b hb ((listed_set hil).2 (.inr hl))

theorem LooseLaw.step_loose (L : LooseLaw P md ops qs bs W a0 aH Q) (I : LooseInv md ops qs bs W a0 aH listed β a w) {b : LooseD} (hb : b ∈ bs) (hr : b.i ∈ Region.ready md ops listed) :
    wpOp P ops Q b.i (fun a' w' => ∃ β', LooseInv md ops qs bs W a0 aH (listed.setIfInBounds b.i true) β' a' w') a w := by
  have hcl := closed_set I.size I.closed hr
  obtain ⟨hun, oi, hoi, hall⟩ := mem_ready.1 hr
  have hil : b.i < listed.size := by rw [I.size]; exact (Array.getElem?_eq_some_iff.1 hoi).1
  obtain ⟨o, ho, hd, hself, hg⟩ := L.own b hb
  obtain rfl : oi = o := by rw [hoi] at ho; exact Option.some.inj ho
  have hunf := getD_both hun
  have e1 : ∀ t ∈ oi.looksAt ops, (∀ c ∈ bs, c.d ≠ t) → a.tmps[t]? = aH.tmps[t]? := by
    intro t ht hc
    by_cases h1 : ∃ j ∈ qs, ∃ oj, ops[j]? = some oj ∧ oj.dst = some t
    · obtain ⟨j, hj, oj, hoj, hdj⟩ := h1
      obtain ⟨e1, he1, hb1, hon⟩ := waitsB_spec ((L.boxq b hb j hj).2.2 oj oi t hoj hoi hdj ht)
      have hl := hall e1 he1 hb1
      rw [hon] at hl
      exact I.q j hj oj t hoj hdj hl
    · have n1 : ∀ j ∈ qs, ∀ oj, ops[j]? = some oj → oj.dst ≠ some t := fun j hj oj hoj hdj => h1 ⟨j, hj, oj, hoj, hdj⟩
      rw [L.rest t n1]
      exact I.un t (fun j hj _ => n1 j hj) fun c hc' _ => hc c hc'
  have e2 : ∀ c ∈ bs, c.d ∈ oi.looksAt ops → ∃ v, a.tmps[c.d]? = some v ∧ c.Φ v w := by
    intro c hc ht
    have hne : c.i ≠ b.i := fun h => hself (by rw [← L.inj c hc b hb h]; exact ht)
    obtain ⟨e1, he1, hb1, hon⟩ := waitsB_spec ((L.boxp c hc b hb hne).l1 oi hoi ht)
    have hl := hall e1 he1 hb1
    rw [hon] at hl
    exact ⟨_, I.bx c hc hl⟩
  have hrun := L.run b hb oi hoi a w I.low e1 e2
  unfold wpOp
  simp only [hoi]
  have hw : Region.wanted oi (yielded ops a.tmps) = true := by simp [Region.wanted, hg]
  simp only [hw, if_true]
  refine hrun.imp (Oper.wp_mono ?_) id
  rintro a' w' ⟨v, rfl, hbw, hΦ⟩
  have old : ∀ c ∈ bs, listed.getD c.i false = true → c.i ≠ b.i := fun c hc hl e => by rw [e, hunf] at hl; cases hl
  refine ⟨fun t => if t = b.d then v else β t, by simp [I.size], hcl, by rw [put_size]; exact I.tsize, by rw [put_defers]; exact I.defers, ?_, ?_, ?_, I.low.trans (hbw.mono I.low.size)⟩
  · intro j hj oj t hoj hdj hl
    rw [listed_set hil] at hl
    have hl' := hl.resolve_left (L.boxq b hb j hj).1
    rw [put_get, hd, if_neg (fun h => ((L.boxq b hb j hj).2.1 oj hoj).1 (by rw [hdj]; exact h.symm))]
    exact I.q j hj oj t hoj hdj hl'
  · intro c hc hl
    rw [listed_set hil] at hl
    by_cases hcb : c.i = b.i
    · obtain rfl := L.inj c hc b hb hcb
      rw [put_get, if_pos hd, if_pos (by rw [I.tsize]; exact L.dlt c hc)]
      simp only [if_true]
      exact ⟨trivial, hΦ⟩
    · have S := L.boxp c hc b hb hcb
      have hl' := hl.resolve_left hcb
      rw [put_get, hd, if_neg (fun h => S.dd (Option.some.inj h).symm), if_neg S.dd]
      exact ⟨(I.bx c hc hl').1, L.stable c hc _ _ _ hbw (I.bx c hc hl').2⟩
  · intro t h1 h2
    have hbd : b.d ≠ t := h2 b hb ((listed_set hil).2 (.inl rfl))
    rw [put_get, hd, if_neg (fun h => hbd (Option.some.inj h))]
    exact I.un t (fun j hj hl => h1 j hj ((listed_set hil).2 (.inr hl))) fun c hc hl => h2 c hc ((listed_set hil).2 (.inr hl))

/-- the frame behind all -/
def loosePut (bs : List LooseD) (β : Nat → Value) (a : Act) : Act := bs.foldl (fun a b => a.put (some b.d) (β b.d)) a
theorem loosePut_get (β : Nat → Value) (t : Nat) : ∀ (bs : List LooseD) (a : Act), (loosePut bs β a).tmps[t]? = if (∃ b ∈ bs, b.d = t) ∧ t < a.tmps.size then some (β t) else a.tmps[t]?
  | [], a => by simp [loosePut]
  | b :: bs, a => by
    show (loosePut bs β (a.put (some b.d) _)).tmps[t]? = _
    rw [loosePut_get β t bs, put_size, put_get]
    have e : (∃ c ∈ b :: bs, c.d = t) ↔ (b.d = t ∨ ∃ c ∈ bs, c.d = t) := by simp
    simp only [e, Option.some.injEq]
    by_cases h1 : ∃ c ∈ bs, c.d = t <;> by_cases h2 : t < a.tmps.size <;> by_cases h3 : b.d = t <;> simp [h1, h2, h3, Array.getElem?_eq_none]
    all_goals (first | omega | (rw [Array.getElem?_eq_none (by omega)]))
theorem loosePut_size (β : Nat → Value) : ∀ (bs : List LooseD) (a : Act), (loosePut bs β a).tmps.size = a.tmps.size ∧ (loosePut bs β a).defers = a.defers
  | [], a => ⟨rfl, rfl⟩
  | b :: bs, a => by
    have := loosePut_size β bs (a.put (some b.d) (β b.d))
    rw [put_size, put_defers] at this
    exact this

theorem LooseLaw.any (L : LooseLaw P md ops qs bs W a0 aH Q) (hQ : ∀ β w', Below W.heap.size W w' → (∀ b ∈ bs, b.Φ (β b.d) w') → Q .normal (loosePut bs β aH) w') :
    ∀ (fuel : Nat) (listed : Array Bool) (β : Nat → Value) (a : Act) (w : World), listed.toList.count false ≤ fuel → LooseInv md ops qs bs W a0 aH listed β a w → wpAny P md ops Q fuel listed a w := by
  have fin : ∀ (listed : Array Bool) (β : Nat → Value) (a : Act) (w : World), LooseInv md ops qs bs W a0 aH listed β a w → Region.ready md ops listed = [] → Q .normal a w := by
    intro listed β a w I h0
    have all : ∀ i, i < ops.size → listed.getD i true = true := by
      intro i
      induction i using Nat.strongRecOn with
      | _ i ih =>
        intro hi
        cases hl : listed.getD i true with
        | true => rfl
        | false =>
          exfalso
          have : i ∈ Region.ready md ops listed := mem_ready.2 ⟨hl, ops[i], Array.getElem?_eq_getElem hi, fun e he hb => by
            have hlt := L.back i _ (Array.getElem?_eq_getElem hi) e he hb
            have := ih e.on hlt (by omega)
            have hs : e.on < listed.size := by rw [I.size]; omega
            simp [hs] at this ⊢; exact this⟩
          rw [h0] at this; cases this
    have all' : ∀ i, i < ops.size → listed.getD i false = true := fun i hi => by
      have := all i hi
      have hs : i < listed.size := by rw [I.size]; exact hi
      simp [hs] at this ⊢; exact this
    have ai : ∀ b ∈ bs, listed.getD b.i false = true := fun b hb => by
      obtain ⟨o, ho, _⟩ := L.own b hb; exact all' _ (Array.getElem?_eq_some_iff.1 ho).1
    have ea : a = loosePut bs β aH := by
      have hsz := loosePut_size β bs aH
      have ht : a.tmps = (loosePut bs β aH).tmps := by
        apply Array.ext_getElem?
        intro t
        rw [loosePut_get]
        by_cases h1 : ∃ b ∈ bs, b.d = t
        · obtain ⟨b, hb, hd⟩ := h1
          rw [if_pos ⟨⟨b, hb, hd⟩, by rw [L.asize, ← hd]; exact L.dlt b hb⟩, ← hd]
          exact (I.bx b hb (ai b hb)).1
        · rw [if_neg (fun h => h1 h.1)]
          by_cases h2 : ∃ j ∈ qs, ∃ oj, ops[j]? = some oj ∧ oj.dst = some t
          · obtain ⟨j, hj, oj, hoj, hd⟩ := h2
            exact I.q j hj oj t hoj hd (all' j (Array.getElem?_eq_some_iff.1 hoj).1)
          · have n1 : ∀ j ∈ qs, ∀ oj, ops[j]? = some oj → oj.dst ≠ some t := fun j hj oj hoj hd => h2 ⟨j, hj, oj, hoj, hd⟩
            rw [L.rest t n1]
            exact I.un t (fun j hj _ => n1 j hj) fun b hb _ h => h1 ⟨b, hb, h⟩
      have hdf : a.defers = (loosePut bs β aH).defers := by rw [hsz.2, L.adefers, I.defers]
      cases a
      cases hb : loosePut bs β aH
      rw [hb] at ht hdf
      simp only at ht hdf
      subst ht hdf
      rfl
    rw [ea]
    exact hQ β w I.low fun b hb => (I.bx b hb (ai b hb)).2
  intro fuel
  induction fuel with
  | zero =>
    intro listed β a w hc I
    have h0 : Region.ready md ops listed = [] := by
      cases h : Region.ready md ops listed with
      | nil => rfl
      | cons i l =>
        exfalso
        have hi : i ∈ Region.ready md ops listed := by rw [h]; simp
        obtain ⟨hun, o, ho, _⟩ := mem_ready.1 hi
        have hs : i < listed.size := by rw [I.size]; exact (Array.getElem?_eq_some_iff.1 ho).1
        have : listed.toList.count false = 0 := by omega
        rw [List.count_eq_zero] at this
        apply this
        simp [hs] at hun
        rw [← hun]
        simp
    exact ⟨h0, fin listed β a w I h0⟩
  | succ fuel ih =>
    intro listed β a w hc I
    refine ⟨fin listed β a w I, fun i hi => ?_⟩
    obtain ⟨hun, o, ho, _⟩ := mem_ready.1 hi
    have hlt := (Array.getElem?_eq_some_iff.1 ho).1
    have hs : i < listed.size := by rw [I.size]; exact hlt
    have hc' : (listed.setIfInBounds i true).toList.count false ≤ fuel := by
      have := count_set (l := listed.toList) (i := i) (by simpa using hs) (by simp [hs] at hun; simp [hs, hun])
      rw [Array.toList_setIfInBounds]
      omega
    rcases L.cover i hlt with h | ⟨b, hb, rfl⟩
    · exact wpOp_mono (fun a' w' I' => ih _ β a' w' hc' I') (L.step_quiet I hi h)
    · exact wpOp_mono (fun a' w' ⟨β', I'⟩ => ih _ β' a' w' hc' I') (L.step_loose I hb hi)

/-- **A region that draws its order, whose operations are quiet ones and such as make memory**: the quiet ones are walked once, each other one is shown by itself. -/
theorem wp_region_loose {id : Nat} {Q : Exit → Act → World → Prop} {a0 : Act} {W : World} {l : List Oper} (m : List Bool) (bs : List LooseD)
    (hm : P.follows .mixedOrders = true) (hlen : m.length = l.length) (hB : Region.looseB .any l.toArray (idxM m 0) (bs.map LooseD.key) = true)
    (hd : bs.all (fun b => Nat.ble (b.d + 1) a0.tmps.size) = true) (hst : ∀ b ∈ bs, ∀ v, StableW (b.Φ v))
    (h : ∃ aH, (∀ S : World → Prop, StableW S → (∃ x, S (gw W x)) → wpQuiet P l.toArray (fun w' => ∃ x : GrewS W S, w' = gw W x.g) (fun a' => a' = aH) (pickM m l) a0) ∧
      (∀ b ∈ bs, ∀ o, l.toArray[b.i]? = some o → ∀ a w, Below W.heap.size W w → (∀ t ∈ o.looksAt l.toArray, (∀ c ∈ bs, c.d ≠ t) → a.tmps[t]? = aH.tmps[t]?) →
        (∀ c ∈ bs, c.d ∈ o.looksAt l.toArray → ∃ v, a.tmps[c.d]? = some v ∧ c.Φ v w) →
        o.wp P a w (fun a' w' => ∃ v, a' = a.put o.dst v ∧ Below w.heap.size w w' ∧ b.Φ v w') Q ∨ (o.asks P a w ∧ LetsOut Q)) ∧
      ∀ β w', Below W.heap.size W w' → (∀ b ∈ bs, b.Φ (β b.d) w') → Q .normal (loosePut bs β aH) w') :
    (Code.region id l.toArray true).wp P Q a0 W := by
  obtain ⟨aH, hw, hrun, hQ⟩ := h
  simp only [Region.looseB, Bool.and_eq_true] at hB
  obtain ⟨⟨⟨⟨⟨hsel, hcov⟩, hback⟩, hqs⟩, hbq⟩, hbx⟩ := hB
  have hpm := pick_map (ops := l.toArray) m l 0 hlen (fun j => by simp)
  have mem : ∀ {js : List Nat} {os : List Oper}, os.map some = js.map (fun i => l.toArray[i]?) → ∀ t : Nat, (∀ j ∈ js, ∀ oj, l.toArray[j]? = some oj → oj.dst ≠ some t) → ∀ o ∈ os, o.dst ≠ some t := by
    intro js os e t h o ho
    have : some o ∈ js.map (fun i => l.toArray[i]?) := by rw [← e]; exact List.mem_map_of_mem ho
    obtain ⟨j, hj, hjo⟩ := List.mem_map.1 this
    exact h j hj o hjo
  have h0 := hw (fun _ => True) (fun _ _ _ _ => trivial) ⟨⟨#[], W.drawn⟩, trivial⟩
  obtain ⟨e1, e2, e3⟩ := quiet_end _ _ h0
  obtain ⟨bx1, bx2⟩ := loosesB_spec bs hbx
  have hp : ∀ b ∈ bs, ∀ c ∈ bs, b ≠ c → LooseS .any l.toArray b c := fun b hb c hc hne => pairwise_of (fun _ _ h => h.symm) bx2 b hb c hc hne
  have inj : ∀ b ∈ bs, ∀ c ∈ bs, b.i = c.i → b = c := fun b hb c hc e => Classical.byContradiction fun hne => (hp b hb c hc hne).ii e
  have L : LooseLaw P .any l.toArray (idxM m 0) bs W a0 aH Q := by
    refine ⟨hsel, fun i hi => ?_, fun i o ho e he hb => ?_, fun pre i post e => quietsB_spec pre i post (by rw [← e]; exact hqs), fun b hb i hi => ?_, bx1, fun b hb c hc hne => hp b hb c hc (fun e => hne (by rw [e])), inj,
      hst, hrun, fun b hb => Nat.le_of_ble_eq_true (List.all_eq_true.1 hd b hb), e1, e2, fun t ht => e3 t (mem hpm t ht), fun S hSt hx pre i post e => ?_⟩
    · have := List.all_eq_true.1 hcov i (List.mem_range.2 hi)
      simp only [Bool.or_eq_true, List.contains_iff_mem, List.any_eq_true, beq_iff_eq] at this
      rcases this with h | ⟨k, hk, h⟩
      · exact .inl h
      · obtain ⟨b, hb, rfl⟩ := List.mem_map.1 hk
        exact .inr ⟨b, hb, h.symm⟩
    · have := List.all_eq_true.1 hback i (List.mem_range.2 (Array.getElem?_eq_some_iff.1 ho).1)
      simp only [Region.backB, ho, Array.all_eq_true_iff_forall_mem] at this
      have h := this e he
      simp only [hb, Bool.not_true, Bool.false_or, decide_eq_true_eq] at h
      exact h
    · exact looseQB_spec (List.all_eq_true.1 (List.all_eq_true.1 hbq b.key (List.mem_map_of_mem hb)) i hi)
    · rw [e, List.map_append, List.map_cons] at hpm
      obtain ⟨p1, p2, q0, q1, q2⟩ := List.map_eq_append_iff.1 hpm
      obtain ⟨o, p3, r0, r1, r2⟩ := List.map_eq_cons_iff.1 q2
      subst r0
      have hwS := hw S hSt hx
      rw [q0] at hwS
      obtain ⟨ap, v, y, _, z2, z3, z4⟩ := quiet_at p1 o p3 a0 hwS
      exact ⟨o, ap, v, r1.symm, y, fun t ht => z2 t (mem q1 t ht), fun t hd ht => z3 t hd (mem r2 t ht), fun t hd ht => z4 t hd (mem r2 t ht)⟩
  refine wp_region_any hm (L.any hQ _ _ (fun _ => undef) _ _ (by simp) ?_)
  have nl : ∀ j, (Array.replicate l.toArray.size false).getD j false = true → False := fun j h => by rw [getD_replicate_false] at h; cases h
  exact ⟨by simp, fun j _ _ h => absurd h (nl j), rfl, rfl, fun i _ _ _ _ _ h => absurd h (nl i), fun b _ h => absurd h (nl b.i), fun _ _ _ => rfl, (Below.refl _ W).drew⟩
end

section
variable {P : Program}
theorem grownBy_below {w w' : World} (h : w.grownBy w' none) : Below w.heap.size w w' := ⟨h.os, h.tape, h.output, h.size, fun k hk => h.block k hk (by simp)⟩

theorem stable_row {base size n : Nat} {e : TypeId} {v : Value} {xs : List Value} : StableW (fun w => w.ownsRow base e size v n xs) := fun w w' hb h => by
  refine ⟨h.1, h.2.imp id fun ⟨g, cap, cur, h1, h2, h3, h4⟩ => ⟨g, cap, cur, h1, h2, (hb.block g (Array.getElem?_eq_some_iff.1 h3).1).trans h3, h4⟩⟩

/-- an empty slice that was just made -/
structure Empty0 (base : Nat) (e : TypeId) (size : Nat) (v : Value) (w : World) : Prop where
  ex : ∃ g, v = .slice (some ⟨g, 0, none⟩) 0 0 ∧ base ≤ g ∧ w.heap[g]? = some (.cells #[] e (0, 0))
theorem stable_empty {base size : Nat} {e : TypeId} {v : Value} : StableW (Empty0 base e size v) := fun w w' hb ⟨g, h1, h2, h3⟩ =>
  ⟨g, h1, h2, (hb.block g (Array.getElem?_eq_some_iff.1 h3).1).trans h3⟩
theorem Empty0.row {base size : Nat} {e : TypeId} {v : Value} {w : World} (h : Empty0 base e size v w) : w.ownsRow base e size v 0 [] := by
  obtain ⟨g, rfl, h2, h3⟩ := h.ex
  exact ⟨by simp, .inr ⟨g, 0, #[], rfl, h2, h3, Nat.le_refl _, by unfold maxLen; omega, by simp, by simp⟩⟩

/-- []T{} -/
theorem made_wp {o : Oper} {a : Act} {w : World} {Q : Exit → Act → World → Prop} (t e : TypeId) (i : TypeInfo) (size base : Nat) (ho : o.op = .buildSlice t 0 #[]) (ht : P.underlying t = some (.slice e)) (hi : P.info? e = some i) (hsize : i.size = size) (hb : base ≤ w.heap.size) :
    o.wp P a w (fun a' w' => ∃ v, a' = a.put o.dst v ∧ Below w.heap.size w w' ∧ Empty0 base e size v w') Q := by
  have hrun : (Instr.buildSlice t 0 #[]).run P w = .ok (.slice (some ⟨w.heap.size, 0, none⟩) 0 0) (w.alloc (.cells #[] e)) := by
    simp [Instr.buildSlice, run_underlying ht, sizeOf, typeInfo, hi, newRow, Result.andThen, Instr.fill, show (Array.range 0 : Array Nat) = #[] from Array.eq_empty_of_size_eq_zero (by simp)]
  unfold Oper.wp
  simp [execOp, ho, hrun, Result.andThen, Oper.upon]
  exact ⟨_, rfl, (Below.refl _ w).alloc (Nat.le_refl _) _, ⟨_, rfl, hb, World.alloc_heap_new w _⟩⟩

theorem run_append_zero (w : World) (t ty e : TypeId) (i : TypeInfo) (ht : P.underlying t = some (.slice e)) (hi : P.info? e = some i) (g : Nat) (ax : Option Addr) (c : Nat) :
    (Builtin.append_ #[t, t] ty #[.slice (some ⟨g, 0, none⟩) 0 0, .slice ax 0 c]).run P w = .ok (.slice (some ⟨g, 0, none⟩) 0 0) w := by
  cases ax <;> simp [Builtin.append_, run_underlying ht, sizeOf, typeInfo, hi, Builtin.lenOf, Builtin.firstCells, storeCells, loadCells, loadCellsFrom, Result.andThen]

/-- append([]T{}, x...) -/
theorem copy_wp {o : Oper} {a : Act} {w : World} {Q : Exit → Act → World → Prop} (s x : Operand) (t e : TypeId) (i : TypeInfo) (z : Value) (size bytes base : Nat) (hg : o.guard = none)
    (ho : o.op = .call { callee := .builtin .append, args := #[s, x], argTypes := #[t, t] }) (ht : P.underlying t = some (.slice e)) (hi : P.info? e = some i) (hz : i.zero = some z) (hsize : i.size = size) (hby : i.bytes = bytes)
    (hzs : z.cells.size = size) (hsz : 0 < size) (hbase : base ≤ w.heap.size) (v0 : Value) (hs : a.eval s = v0) (h0 : Empty0 base e size v0 w)
    (ax : Option Addr) (m c : Nat) (news : List Value) (hx : a.eval x = .slice ax m c) (hn : news.length = m * size) (hc : m = 0 ∨ ∃ ad, ax = some ad ∧ ∀ j u, news[j]? = some u → w.cell? (ad.add j) = some u) (h1 : ∀ u ∈ news, u.oneCell' = true)
    (b1 : m ≤ maxLen) (b2 : m * bytes ≤ 140737488355328) :
    o.wp P a w (fun a' w' => ∃ v, a' = a.put o.dst v ∧ Below w.heap.size w w' ∧ w'.ownsRow base e size v m news) Q := by
  obtain ⟨g, rfl, hgb, hgh⟩ := h0.ex
  by_cases hm : m = 0
  · subst hm
    obtain rfl : news = [] := List.eq_nil_of_length_eq_zero (by simpa using hn)
    have hrun := run_append_zero (P := P) w t o.type e i ht hi g ax c
    unfold Oper.wp
    simp [execOp, ho, resolve, invoke, builtin, hs, hx, hrun, Result.andThen, Oper.upon]
    exact ⟨_, rfl, Below.refl _ _, h0.row⟩
  · obtain ⟨ad, rfl, hcc⟩ := hc.resolve_left hm
    have := step_append_grows (P := P) (ops := #[]) (o := o) (a := a) (w := w) (K := fun a' w' => ∃ v, a' = a.put o.dst v ∧ Below w.heap.size w w' ∧ w'.ownsRow base e size v m news) (Q := Q) (E := False) hg s x t ho e i z size bytes ht hi hz hsize hby hzs hsz
      (some ⟨g, 0, none⟩) 0 0 [] hs (by simp) (by simp) (by simp) ad m c news hx hn hcc h1 (by omega) (by omega) (by rw [Nat.zero_add]; exact b2) (fun v' w' r1 r2 => ⟨v', rfl, grownBy_below r2, by
        simp only [Nat.zero_add, List.nil_append] at r1
        exact ⟨r1.1, r1.2.imp id fun ⟨g, cap, cur, q1, q2, q3⟩ => ⟨g, cap, cur, q1, Nat.le_trans hbase q2, q3⟩⟩⟩)
    have hw : Region.wanted o (yielded #[] a.tmps) = true := by simp [Region.wanted, hg]
    rw [if_pos hw] at this
    exact this

/-- x = y, y being made -/
theorem move_wp {o : Oper} {a : Act} {w : World} {Q : Exit → Act → World → Prop} {Φ : Value → World → Prop} (x : Operand) (ho : o.op = .assign x) (v : Value) (hx : a.eval x = v) (h : Φ v w) :
    o.wp P a w (fun a' w' => ∃ v, a' = a.put o.dst v ∧ Below w.heap.size w w' ∧ Φ v w') Q := by
  unfold Oper.wp
  simp [execOp, ho, hx, Oper.upon]
  exact ⟨v, rfl, Below.refl _ _, h⟩
theorem eval_of {a : Act} {t : Nat} {v : Value} (h : a.tmps[t]? = some v) : a.eval (.tmp t) = v := by simp [Act.eval, h]
end
end Go

namespace Go.Proofs.YtjgnafhbeekebaaGreat
open Go.RowKit

theorem calls_gw_same {P : Program} {f : FuncId} {args : Array Value} {w : World} {x : Grew} {v : Value}
    (h : Calls P f args (gw w x) fun e w' => e = .returned v ∧ ∃ y, w' = gw (gw w x) y) : Calls P f args (gw w x) fun e w'' => e = .returned v ∧ ∃ x', w'' = gw w x' :=
  h.mono fun _ _ ⟨he, y, hb⟩ => ⟨he, by obtain ⟨z, hz⟩ := gw_gw w x y; exact ⟨z, by rw [hb, hz]⟩⟩
def intsV (n : Nat) (L : Nat → Int) : List Value := (List.range n).map fun j => .int .i64 (L j)
def spansV (n : Nat) (A B : Nat → Int) : List Value := (List.range n).flatMap fun j => [.int .i64 (A j), .int .i64 (B j)]
theorem intsV_len (n : Nat) (L : Nat → Int) : (intsV n L).length = n * 1 := by simp [intsV]
theorem spansV_succ (n : Nat) (A B : Nat → Int) : spansV (n + 1) A B = spansV n A B ++ [.int .i64 (A n), .int .i64 (B n)] := by simp [spansV, List.range_succ]
theorem spansV_len (A B : Nat → Int) : ∀ n, (spansV n A B).length = n * 2
  | 0 => rfl
  | n + 1 => by rw [spansV_succ, List.length_append, spansV_len A B n]; simp; omega
theorem spansV_get (A B : Nat → Int) : ∀ (n i : Nat), i < n → (spansV n A B)[i * 2]? = some (.int .i64 (A i)) ∧ (spansV n A B)[i * 2 + 1]? = some (.int .i64 (B i))
  | 0, i, h => by omega
  | n + 1, i, h => by
    rw [spansV_succ]
    by_cases hi : i < n
    · obtain ⟨h1, h2⟩ := spansV_get A B n i hi
      have l := spansV_len A B n
      rw [List.getElem?_append_left (by omega), List.getElem?_append_left (by omega)]
      exact ⟨h1, h2⟩
    · obtain rfl : i = n := by omega
      have l := spansV_len A B i
      rw [List.getElem?_append_right (by omega), List.getElem?_append_right (by omega), l]
      simp
theorem intsV_one (n : Nat) (L : Nat → Int) : ∀ u ∈ intsV n L, u.oneCell' = true := by
  intro u hu
  simp only [intsV, List.mem_map] at hu
  obtain ⟨j, _, rfl⟩ := hu
  rfl
theorem spansV_one (n : Nat) (A B : Nat → Int) : ∀ u ∈ spansV n A B, u.oneCell' = true := by
  intro u hu
  simp only [spansV, List.mem_flatMap] at hu
  obtain ⟨j, _, h⟩ := hu
  simp at h
  rcases h with rfl | rfl <;> rfl
theorem addr_add (b off j : Nat) : (⟨b, off, none⟩ : Addr).add j = ⟨b, off + j, none⟩ := by unfold Addr.add; split <;> simp_all
theorem ints_news {w : World} {a : Option Addr} {n : Nat} {L : Nat → Int} (h : IntsAt w a n L) : n = 0 ∨ ∃ ad, a = some ad ∧ ∀ j u, (intsV n L)[j]? = some u → w.cell? (ad.add j) = some u := by
  rcases h with h | ⟨b, off, rfl, _, hc⟩
  · exact .inl h
  · refine .inr ⟨_, rfl, fun j u hu => ?_⟩
    have hj : j < n := by have := (List.getElem?_eq_some_iff.1 hu).1; rw [intsV_len] at this; omega
    rw [addr_add, hc j hj, ← hu]
    simp [intsV, hj]
theorem spans_news {w : World} {a : Option Addr} {n : Nat} {A B : Nat → Int} (h : SpansAt w a n A B) : n = 0 ∨ ∃ ad, a = some ad ∧ ∀ j u, (spansV n A B)[j]? = some u → w.cell? (ad.add j) = some u := by
  rcases h with h | ⟨b, off, rfl, _, hc⟩
  · exact .inl h
  · refine .inr ⟨_, rfl, fun j u hu => ?_⟩
    have hj : j < n * 2 := by have := (List.getElem?_eq_some_iff.1 hu).1; rwa [spansV_len] at this
    rw [addr_add]
    have e : j = j / 2 * 2 ∨ j = j / 2 * 2 + 1 := by omega
    obtain ⟨c1, c2⟩ := hc (j / 2) (by omega)
    obtain ⟨g1, g2⟩ := spansV_get A B n (j / 2) (by omega)
    rcases e with e | e
    · rw [e] at hu ⊢
      rw [c1, ← hu, g1]
    · rw [e] at hu ⊢
      rw [← Nat.add_assoc, c2, ← hu, g2]
theorem spans_of_own {w : World} {base k : Nat} {e : TypeId} {A B : Nat → Int} {v : Value} (h : w.ownsRow base e 2 v k (spansV k A B)) : ∃ a cap, v = .slice a k cap ∧ SpansAt w a k A B := by
  rcases h.2 with ⟨rfl, h0⟩ | ⟨g, cap, cur, rfl, hg, hgb, _⟩
  · exact ⟨none, 0, by rw [h0], .inl h0⟩
  · refine ⟨_, cap, rfl, .inr ⟨g, 0, rfl, (Array.getElem?_eq_some_iff.1 hgb).1, fun i hi => ?_⟩⟩
    obtain ⟨h1, h2⟩ := spansV_get A B k i hi
    simp only [Nat.zero_add]
    exact ⟨row_cells h _ _ h1, row_cells h _ _ h2⟩
end Go.Proofs.YtjgnafhbeekebaaGreat
