/- A law for regions that draw their order and hold, next to quiet operations and such as make memory, stores into variables that lay there before. Laws of append: an owned row and any list that lies in memory, in a plain region and in one that draws its order; a row is overwritten; lists of spans one behind the other. A law for regions that draw their order and end in two stores into variables that lay there before, next to operations that leave what there was as it was. A law for regions that draw their order and end in three stores into variables that lay there before, next to operations that leave what there was as it was. No conditions beyond each theorem's own. -/
import Derived.Test.YtjgnafhbeekebaaGreatAc
import Derived.Deep.RegionLaw
set_option linter.unusedVariables false
set_option linter.unusedSimpArgs false
set_option linter.unusedSectionVars false
set_option linter.constructorNameAsVariable false
namespace Go
open Go.RowKit
section
variable {P : Program} {ops : Array Oper} {md : Region.Mode}

/-- a store: its number, the temporaries of place and value, the type, the block, its cells before and behind -/
structure PutD where
  i : Nat
  dt : Tmp
  v : Tmp
  T : TypeId
  B : Nat
  old : Array Value
  cs : Array Value
def Region.putQB (md : Region.Mode) (ops : Array Oper) (k i : Nat) : Bool :=
  match ops[i]?, ops[k]? with
  | some o, some s => decide (i ≠ k) && Region.readB md ops i o s
  | _, _ => false
def Region.putSB (ops : Array Oper) (k : Nat) (bs : List (Nat × Tmp)) : Bool :=
  match ops[k]? with
  | some s => s.dst.isNone && s.guard.isNone && bs.all (fun b => decide (b.1 ≠ k) && !(s.looksAt ops).contains b.2)
  | none => false
def nodupB : List Nat → Bool
  | [] => true
  | a :: l => !l.contains a && nodupB l
/-- the Bool over a region -/
def Region.putsB (md : Region.Mode) (ops : Array Oper) (qs : List Nat) (bs : List (Nat × Tmp)) (ks : List Nat) : Bool :=
  Region.noSelect ops && (List.range ops.size).all (fun i => qs.contains i || (bs.any (fun b => b.1 == i) || ks.contains i)) && (List.range ops.size).all (Region.backB md ops) &&
  Region.quietsB md ops qs && bs.all (fun b => qs.all (Region.looseQB md ops b)) && Region.loosesB md ops bs && (ks.all (fun k => Region.putSB ops k bs && qs.all (Region.putQB md ops k)) && nodupB ks)

/-- as W, but for the blocks that are put -/
structure PutNear (W : World) (ps : List PutD) (Wx : World) : Prop where
  far : ∀ k, (∀ p ∈ ps, p.B ≠ k) → Wx.heap[k]? = W.heap[k]?
  size : Wx.heap.size = W.heap.size
  os : Wx.os = W.os
  tape : Wx.tape = W.tape
  output : Wx.output = W.output
/-- the same at a state -/
structure PutAt (W : World) (ps : List PutD) (listed : Array Bool) (Wx : World) : Prop where
  near : PutNear W ps Wx
  own : ∀ p ∈ ps, listed.getD p.i false = true → Wx.heap[p.B]? = some (.cells p.cs p.T (0, 0))
  un : ∀ p ∈ ps, listed.getD p.i false = false → Wx.heap[p.B]? = W.heap[p.B]?

theorem putQB_spec {k i : Nat} (h : Region.putQB md ops k i = true) : i ≠ k ∧ ∀ o s t, ops[i]? = some o → ops[k]? = some s → o.dst = some t → t ∈ s.looksAt ops → Region.waitsB md s i = true := by
  unfold Region.putQB at h
  cases hi : ops[i]? with
  | none => simp [hi] at h
  | some o =>
    cases hj : ops[k]? with
    | none => simp [hi, hj] at h
    | some s =>
      simp only [hi, hj, Bool.and_eq_true, decide_eq_true_eq] at h
      refine ⟨h.1, fun o' s' t ho hs hd ht => ?_⟩
      obtain rfl : o = o' := Option.some.inj ho
      obtain rfl : s = s' := Option.some.inj hs
      exact readB_spec h.2 hd ht
theorem putSB_spec {k : Nat} {bs : List LooseD} (h : Region.putSB ops k (bs.map LooseD.key) = true) : ∃ s, ops[k]? = some s ∧ s.dst = none ∧ s.guard = none ∧ ∀ b ∈ bs, b.i ≠ k ∧ b.d ∉ s.looksAt ops := by
  unfold Region.putSB at h
  cases hk : ops[k]? with
  | none => simp [hk] at h
  | some s =>
    simp only [hk, Bool.and_eq_true, Option.isNone_iff_eq_none, List.all_eq_true] at h
    refine ⟨s, rfl, h.1.1, h.1.2, fun b hb => ?_⟩
    have := h.2 b.key (List.mem_map_of_mem hb)
    simp only [Bool.and_eq_true, decide_eq_true_eq] at this
    exact ⟨this.1, by simpa [LooseD.key] using this.2⟩
theorem nodupB_spec : ∀ {ps : List PutD}, nodupB (ps.map (·.i)) = true → ∀ p ∈ ps, ∀ q ∈ ps, p.i = q.i → p = q
  | [], _, _, h, _, _, _ => (by cases h)
  | a :: l, h, p, hp, q, hq, e => by
    simp only [List.map_cons, nodupB, Bool.and_eq_true] at h
    have h1 : ∀ r ∈ l, r.i ≠ a.i := fun r hr e => by
      have hm : a.i ∈ l.map (·.i) := by rw [← e]; exact List.mem_map_of_mem hr
      have h2 := h.1
      rw [List.contains_iff_mem.2 hm] at h2
      cases h2
    rcases List.mem_cons.1 hp with e1 | hp1
    · rcases List.mem_cons.1 hq with e2 | hq1
      · rw [e1, e2]
      · exact absurd (e1 ▸ e).symm (h1 q hq1)
    · rcases List.mem_cons.1 hq with e2 | hq1
      · exact absurd (e2 ▸ e) (h1 p hp1)
      · exact nodupB_spec h.2 p hp1 q hq1 e

/-- the state between two operations -/
structure PutInv (md : Region.Mode) (ops : Array Oper) (qs : List Nat) (bs : List LooseD) (ps : List PutD) (W : World) (a0 aH : Act) (listed : Array Bool) (β : Nat → Value) (a : Act) (w : World) : Prop where
  size : listed.size = ops.size
  closed : ∀ j oj, ops[j]? = some oj → listed.getD j false = true → ∀ e ∈ oj.after, Region.binds md e = true → listed.getD e.on false = true
  tsize : a.tmps.size = a0.tmps.size
  defers : a.defers = a0.defers
  q : ∀ i ∈ qs, ∀ o t, ops[i]? = some o → o.dst = some t → listed.getD i false = true → a.tmps[t]? = aH.tmps[t]?
  bx : ∀ b ∈ bs, listed.getD b.i false = true → a.tmps[b.d]? = some (β b.d) ∧ b.Φ (β b.d) w
  un : ∀ t, (∀ i ∈ qs, listed.getD i false = true → ∀ o, ops[i]? = some o → o.dst ≠ some t) → (∀ b ∈ bs, listed.getD b.i false = true → b.d ≠ t) → a.tmps[t]? = a0.tmps[t]?
  low : ∃ Wx, PutAt W ps listed Wx ∧ Below W.heap.size Wx w

/-- all that the law asks -/
structure PutLaw (P : Program) (md : Region.Mode) (ops : Array Oper) (qs : List Nat) (bs : List LooseD) (ps : List PutD) (W : World) (a0 aH : Act) (Q : Exit → Act → World → Prop) : Prop where
  sel : Region.noSelect ops = true
  cover : ∀ i, i < ops.size → i ∈ qs ∨ (∃ b ∈ bs, i = b.i) ∨ ∃ p ∈ ps, i = p.i
  putq : ∀ p ∈ ps, ∀ i ∈ qs, i ≠ p.i ∧ ∀ o s t, ops[i]? = some o → ops[p.i]? = some s → o.dst = some t → t ∈ s.looksAt ops → Region.waitsB md s i = true
  puts : ∀ p ∈ ps, ∃ s, ops[p.i]? = some s ∧ s.dst = none ∧ s.guard = none ∧ ∀ b ∈ bs, b.i ≠ p.i ∧ b.d ∉ s.looksAt ops
  pinj : ∀ p ∈ ps, ∀ q ∈ ps, p.i = q.i → p = q
  binj : ∀ p ∈ ps, ∀ q ∈ ps, p.B = q.B → p = q
  pop : ∀ p ∈ ps, ∀ s, ops[p.i]? = some s → s.op = .store p.T (.tmp p.dt) (.tmp p.v)
  pptr : ∀ p ∈ ps, aH.eval (.tmp p.dt) = .pointer (some ⟨p.B, 0, none⟩)
  pval : ∀ p ∈ ps, aH.eval (.tmp p.v) = .agg p.cs
  pold : ∀ p ∈ ps, W.heap[p.B]? = some (.cells p.old p.T (0, 0))
  pinfo : ∀ p ∈ ps, (P.info? p.T).map (·.size) = some p.cs.size
  psz : ∀ p ∈ ps, p.old.size = p.cs.size
  pone : ∀ p ∈ ps, p.cs.all (·.oneCell') = true
  pstable : ∀ b ∈ bs, ∀ v, ∀ p ∈ ps, ∀ w w', b.Φ v w → Puts w w' p.B (.cells p.cs p.T (0, 0)) → b.Φ v w'
  back : ∀ i o, ops[i]? = some o → ∀ e ∈ o.after, Region.binds md e = true → e.on < i
  quiet : ∀ pre i post, qs = pre ++ i :: post → (∀ o t, ops[i]? = some o → o.dst = some t → t ∉ o.looksAt ops) ∧ (∀ j ∈ pre, PairS md ops j i) ∧ (∀ j ∈ post, PairS md ops i j)
  boxq : ∀ b ∈ bs, ∀ i ∈ qs, i ≠ b.i ∧ (∀ o, ops[i]? = some o → o.dst ≠ some b.d ∧ b.d ∉ o.looksAt ops) ∧ ∀ o s t, ops[i]? = some o → ops[b.i]? = some s → o.dst = some t → t ∈ s.looksAt ops → Region.waitsB md s i = true
  own : ∀ b ∈ bs, ∃ s, ops[b.i]? = some s ∧ s.dst = some b.d ∧ b.d ∉ s.looksAt ops ∧ s.guard = none
  boxp : ∀ b ∈ bs, ∀ c ∈ bs, b.i ≠ c.i → LooseS md ops b c
  inj : ∀ b ∈ bs, ∀ c ∈ bs, b.i = c.i → b = c
  stable : ∀ b ∈ bs, ∀ v, StableW (b.Φ v)
  run : ∀ b ∈ bs, ∀ o, ops[b.i]? = some o → ∀ a Wx w, PutNear W ps Wx → Below W.heap.size Wx w → (∀ t ∈ o.looksAt ops, (∀ c ∈ bs, c.d ≠ t) → a.tmps[t]? = aH.tmps[t]?) →
    (∀ c ∈ bs, c.d ∈ o.looksAt ops → ∃ v, a.tmps[c.d]? = some v ∧ c.Φ v w) →
    o.wp P a w (fun a' w' => ∃ v, a' = a.put o.dst v ∧ Below w.heap.size w w' ∧ b.Φ v w') Q ∨ (o.asks P a w ∧ LetsOut Q)
  dlt : ∀ b ∈ bs, b.d < a0.tmps.size
  asize : aH.tmps.size = a0.tmps.size
  adefers : aH.defers = a0.defers
  rest : ∀ t, (∀ i ∈ qs, ∀ o, ops[i]? = some o → o.dst ≠ some t) → aH.tmps[t]? = a0.tmps[t]?
  walk : ∀ Wx, PutNear W ps Wx → ∀ S : World → Prop, StableW S → (∃ x, S (gw Wx x)) → ∀ pre i post, qs = pre ++ i :: post → ∃ o ap v, ops[i]? = some o ∧ YieldsIn P ops (fun w' => ∃ x : GrewS Wx S, w' = gw Wx x.g) o v ap ∧
    (∀ t, (∀ j ∈ pre, ∀ oj, ops[j]? = some oj → oj.dst ≠ some t) → ap.tmps[t]? = a0.tmps[t]?) ∧
    (∀ t, o.dst ≠ some t → (∀ j ∈ post, ∀ oj, ops[j]? = some oj → oj.dst ≠ some t) → ap.tmps[t]? = aH.tmps[t]?) ∧
    (∀ t, o.dst = some t → (∀ j ∈ post, ∀ oj, ops[j]? = some oj → oj.dst ≠ some t) → aH.tmps[t]? = if t < a0.tmps.size then some v else none)

variable {qs : List Nat} {bs : List LooseD} {ps : List PutD} {W : World} {a0 aH : Act} {listed : Array Bool} {β : Nat → Value} {a : Act} {w : World} {Q : Exit → Act → World → Prop}

theorem PutLaw.distinct (L : PutLaw P md ops qs bs ps W a0 aH Q) {i j : Nat} (hi : i ∈ qs) (hj : j ∈ qs) (hne : i ≠ j) {oi oj : Oper} {t : Nat} (h1 : ops[i]? = some oi) (h2 : ops[j]? = some oj) (ht : oi.dst = some t) : oj.dst ≠ some t := by
  obtain ⟨pre, post, e⟩ := mem_split hi
  obtain ⟨_, l1, l2⟩ := L.quiet pre i post e
  rw [e] at hj
  rcases List.mem_append.1 hj with h | h
  · intro hc
    exact (l1 j h).dst oj oi t h2 h1 hc ht
  · rcases List.mem_cons.1 h with rfl | h
    · exact absurd rfl hne
    · exact (l2 j h).dst oi oj t h1 h2 ht

theorem PutLaw.step_quiet (L : PutLaw P md ops qs bs ps W a0 aH Q) (I : PutInv md ops qs bs ps W a0 aH listed β a w) {i : Nat} (hr : i ∈ Region.ready md ops listed) (hq : i ∈ qs) :
    wpOp P ops Q i (fun a' w' => PutInv md ops qs bs ps W a0 aH (listed.setIfInBounds i true) β a' w') a w := by
  have hcl := closed_set I.size I.closed hr
  obtain ⟨hun, oi, hoi, hall⟩ := mem_ready.1 hr
  have hil : i < listed.size := by rw [I.size]; exact (Array.getElem?_eq_some_iff.1 hoi).1
  obtain ⟨pre, post, e⟩ := mem_split hq
  obtain ⟨hself, hpre, hpost⟩ := L.quiet pre i post e
  have hS : StableW (fun w' => ∀ b ∈ bs, listed.getD b.i false = true → b.Φ (β b.d) w') := fun w1 w2 hb h b hbm hl => L.stable b hbm _ _ _ hb (h b hbm hl)
  obtain ⟨Wx, hWx, hlow⟩ := I.low
  obtain ⟨x, hx⟩ := gw_of_below (hWx.near.size.symm ▸ hlow)
  obtain ⟨o, ap, v, ho, hy, f1, f2, f3⟩ := L.walk Wx hWx.near _ hS ⟨x, hx ▸ fun b hb hl => (I.bx b hb hl).2⟩ pre i post e
  obtain rfl : oi = o := by rw [hoi] at ho; exact Option.some.inj ho
  have hag : ∀ t ∈ oi.looksAt ops, a.tmps[t]? = ap.tmps[t]? := by
    intro t ht
    have nd : oi.dst ≠ some t := fun h => hself oi t hoi h ht
    have nb : ∀ b ∈ bs, b.d ≠ t := fun b hb h => ((L.boxq b hb i hq).2.1 oi hoi).2 (h ▸ ht)
    by_cases h1 : ∃ j ∈ pre, ∃ oj, ops[j]? = some oj ∧ oj.dst = some t
    · obtain ⟨j, hj, oj, hoj, hd⟩ := h1
      obtain ⟨e1, he1, hb1, hon⟩ := waitsB_spec ((hpre j hj).fwd oj oi t hoj hoi hd ht)
      have hl := hall e1 he1 hb1
      rw [hon] at hl
      have hjq : j ∈ qs := by rw [e]; exact List.mem_append_left _ hj
      rw [I.q j hjq oj t hoj hd hl, f2 t nd fun k hk ok hok => L.distinct hjq (by rw [e]; simp [hk]) (fun hjk => ?_) hoj hok hd]
      subst hjk
      obtain ⟨pre1, mid, e2⟩ := mem_split hj
      have q := (L.quiet pre1 j (mid ++ i :: post) (by rw [e, e2]; simp)).2.2 j (by simp [hk])
      exact q.ne rfl
    · have n1 : ∀ j ∈ pre, ∀ oj, ops[j]? = some oj → oj.dst ≠ some t := fun j hj oj hoj hd => h1 ⟨j, hj, oj, hoj, hd⟩
      rw [f1 t n1]
      refine I.un t (fun j hj hl oj hoj hd => ?_) fun b hb _ => nb b hb
      rw [e] at hj
      rcases List.mem_append.1 hj with h | h
      · exact n1 j h oj hoj hd
      · rcases List.mem_cons.1 h with rfl | h
        · obtain rfl : oi = oj := by rw [hoi] at hoj; exact Option.some.inj hoj
          exact nd hd
        · obtain ⟨e1, he1, hb1, hon⟩ := waitsB_spec ((hpost j h).bwd oi oj t hoi hoj hd ht)
          have := I.closed j oj hoj hl e1 he1 hb1
          rw [hon, getD_both hun] at this
          cases this
  have hsel := Region.noSelect_spec L.sel
  obtain ⟨g1, g2⟩ := exec_agree (fun cs b => hsel i oi cs b hoi) hag
  have hy' := hy.of_same g1 g2
  have hqop : qOp P ops (fun w' => ∃ y : GrewS Wx (fun w' => ∀ b ∈ bs, listed.getD b.i false = true → b.Φ (β b.d) w'), w' = gw Wx y.g) i (fun a' => a' = a.put oi.dst v) a :=
    hy'.qOp hoi rfl
  refine wpOp_of_qOp (C := fun w' => ∃ y : GrewS Wx (fun w' => ∀ b ∈ bs, listed.getD b.i false = true → b.Φ (β b.d) w'), w' = gw Wx y.g) ⟨⟨x, hx ▸ fun b hb hl => (I.bx b hb hl).2⟩, hx⟩ ?_ hqop
  rintro a' w' ⟨y, rfl⟩ rfl
  have hys := y.s
  refine ⟨by simp [I.size], hcl, by rw [put_size]; exact I.tsize, by rw [put_defers]; exact I.defers, ?_, ?_, ?_, Wx, ?_, hWx.near.size ▸ below_gw Wx y.g⟩
  · intro j hj oj t hoj hd hl
    rw [put_get]
    by_cases hji : j = i
    · subst hji
      obtain rfl : oi = oj := by rw [hoi] at hoj; exact Option.some.inj hoj
      rw [if_pos hd, I.tsize]
      exact (f3 t hd fun k hk ok hok => (hpost k hk).dst oi ok t hoi hok hd).symm
    · rw [if_neg (L.distinct hj hq hji hoj hoi hd)]
      rw [listed_set hil] at hl
      exact I.q j hj oj t hoj hd (hl.resolve_left hji)
  · intro b hb hl
    have hb1 := L.boxq b hb i hq
    rw [put_get, if_neg (hb1.2.1 oi hoi).1]
    rw [listed_set hil] at hl
    have hl' := hl.resolve_left (Ne.symm hb1.1)
    exact ⟨(I.bx b hb hl').1, hys b hb hl'⟩
  · intro t h1 h2
    have nd : oi.dst ≠ some t := h1 i hq ((listed_set hil).2 (.inl rfl)) oi hoi
    rw [put_get, if_neg nd]
    exact I.un t (fun j hj hl => h1 j hj ((listed_set hil).2 (.inr hl))) fun b hb hl => h2 b hb ((listed_set hil).2 (.inr hl))
  · refine ⟨hWx.near, fun p hp hl => ?_, fun p hp hl => ?_⟩
    · rw [listed_set hil] at hl
      exact hWx.own p hp (hl.resolve_left (Ne.symm (L.putq p hp i hq).1))
    · refine hWx.un p hp ?_
      cases h : listed.getD p.i false with
      | false => rfl
      | true => rw [(listed_set hil).2 (.inr h)] at hl; cases hl

theorem PutLaw.step_loose (L : PutLaw P md ops qs bs ps W a0 aH Q) (I : PutInv md ops qs bs ps W a0 aH listed β a w) {b : LooseD} (hb : b ∈ bs) (hr : b.i ∈ Region.ready md ops listed) :
    wpOp P ops Q b.i (fun a' w' => ∃ β', PutInv md ops qs bs ps W a0 aH (listed.setIfInBounds b.i true) β' a' w') a w := by
  have hcl := closed_set I.size I.closed hr
  obtain ⟨hun, oi, hoi, hall⟩ := mem_ready.1 hr
  have hil : b.i < listed.size := by rw [I.size]; exact (Array.getElem?_eq_some_iff.1 hoi).1
  obtain ⟨o, ho, hd, hself, hg⟩ := L.own b hb
  obtain rfl : oi = o := by rw [hoi] at ho; exact Option.some.inj ho
  have hunf := getD_both hun
  have e1 : ∀ t ∈ oi.looksAt ops, (∀ c ∈ bs, c.d ≠ t) → a.tmps[t]? = aH.tmps[t]? := by
    intro t ht hc
    by_cases h1 : ∃ j ∈ qs, ∃ oj, ops[j]? = some oj ∧ oj.dst = some t
    · obtain ⟨j, hj, oj, hoj, hdj⟩ := h1
      obtain ⟨e1, he1, hb1, hon⟩ := waitsB_spec ((L.boxq b hb j hj).2.2 oj oi t hoj hoi hdj ht)
      have hl := hall e1 he1 hb1
      rw [hon] at hl
      exact I.q j hj oj t hoj hdj hl
    · have n1 : ∀ j ∈ qs, ∀ oj, ops[j]? = some oj → oj.dst ≠ some t := fun j hj oj hoj hdj => h1 ⟨j, hj, oj, hoj, hdj⟩
      rw [L.rest t n1]
      exact I.un t (fun j hj _ => n1 j hj) fun c hc' _ => hc c hc'
  have e2 : ∀ c ∈ bs, c.d ∈ oi.looksAt ops → ∃ v, a.tmps[c.d]? = some v ∧ c.Φ v w := by
    intro c hc ht
    have hne : c.i ≠ b.i := fun h => hself (by rw [← L.inj c hc b hb h]; exact ht)
    obtain ⟨e1, he1, hb1, hon⟩ := waitsB_spec ((L.boxp c hc b hb hne).l1 oi hoi ht)
    have hl := hall e1 he1 hb1
    rw [hon] at hl
    exact ⟨_, I.bx c hc hl⟩
  obtain ⟨Wx, hWx, hlow⟩ := I.low
  have hsz : W.heap.size ≤ w.heap.size := by have := hlow.size; rw [hWx.near.size] at this; exact this
  have hrun := L.run b hb oi hoi a Wx w hWx.near hlow e1 e2
  unfold wpOp
  simp only [hoi]
  have hw : Region.wanted oi (yielded ops a.tmps) = true := by simp [Region.wanted, hg]
  simp only [hw, if_true]
  refine hrun.imp (Oper.wp_mono ?_) id
  rintro a' w' ⟨v, rfl, hbw, hΦ⟩
  have old : ∀ c ∈ bs, listed.getD c.i false = true → c.i ≠ b.i := fun c hc hl e => by rw [e, hunf] at hl; cases hl
  refine ⟨fun t => if t = b.d then v else β t, by simp [I.size], hcl, by rw [put_size]; exact I.tsize, by rw [put_defers]; exact I.defers, ?_, ?_, ?_, Wx, ?_, hlow.trans (hbw.mono hsz)⟩
  · intro j hj oj t hoj hdj hl
    rw [listed_set hil] at hl
    have hl' := hl.resolve_left (L.boxq b hb j hj).1
    rw [put_get, hd, if_neg (fun h => ((L.boxq b hb j hj).2.1 oj hoj).1 (by rw [hdj]; exact h.symm))]
    exact I.q j hj oj t hoj hdj hl'
  · intro c hc hl
    rw [listed_set hil] at hl
    by_cases hcb : c.i = b.i
    · obtain rfl := L.inj c hc b hb hcb
      rw [put_get, if_pos hd, if_pos (by rw [I.tsize]; exact L.dlt c hc)]
      simp only [if_true]
      exact ⟨trivial, hΦ⟩
    · have S := L.boxp c hc b hb hcb
      have hl' := hl.resolve_left hcb
      rw [put_get, hd, if_neg (fun h => S.dd (Option.some.inj h).symm), if_neg S.dd]
      exact ⟨(I.bx c hc hl').1, L.stable c hc _ _ _ hbw (I.bx c hc hl').2⟩
  · intro t h1 h2
    have hbd : b.d ≠ t := h2 b hb ((listed_set hil).2 (.inl rfl))
    rw [put_get, hd, if_neg (fun h => hbd (Option.some.inj h))]
    exact I.un t (fun j hj hl => h1 j hj ((listed_set hil).2 (.inr hl))) fun c hc hl => h2 c hc ((listed_set hil).2 (.inr hl))
  · refine ⟨hWx.near, fun p hp hl => ?_, fun p hp hl => ?_⟩
    · rw [listed_set hil] at hl
      obtain ⟨s, hs, _, _, hx⟩ := L.puts p hp
      exact hWx.own p hp (hl.resolve_left (Ne.symm (hx b hb).1))
    · refine hWx.un p hp ?_
      cases h : listed.getD p.i false with
      | false => rfl
      | true => rw [(listed_set hil).2 (.inr h)] at hl; cases hl

theorem PutLaw.step_put (L : PutLaw P md ops qs bs ps W a0 aH Q) (I : PutInv md ops qs bs ps W a0 aH listed β a w) {p : PutD} (hp : p ∈ ps) (hr : p.i ∈ Region.ready md ops listed) :
    wpOp P ops Q p.i (fun a' w' => PutInv md ops qs bs ps W a0 aH (listed.setIfInBounds p.i true) β a' w') a w := by
  have hcl := closed_set I.size I.closed hr
  obtain ⟨hun, oi, hoi, hall⟩ := mem_ready.1 hr
  have hil : p.i < listed.size := by rw [I.size]; exact (Array.getElem?_eq_some_iff.1 hoi).1
  obtain ⟨o, ho, hd, hg, hbs⟩ := L.puts p hp
  obtain rfl : oi = o := by rw [hoi] at ho; exact Option.some.inj ho
  have hunf := getD_both hun
  have hop := L.pop p hp oi hoi
  obtain ⟨Wx, hWx, hlow⟩ := I.low
  have hBW : p.B < W.heap.size := (Array.getElem?_eq_some_iff.1 (L.pold p hp)).1
  have hold : w.heap[p.B]? = some (.cells p.old p.T (0, 0)) := by
    rw [hlow.block p.B hBW, hWx.un p hp hunf]; exact L.pold p hp
  obtain ⟨w1, hw1, hput⟩ := puts_row (P := P) (L.pinfo p hp) (L.psz p hp) (L.pone p hp) w p.B hold
  have same : ∀ t, Operand.tmp t ∈ (Op.operands oi.op).toList → a.tmps[t]? = aH.tmps[t]? := by
    intro t hm
    have ht : t ∈ oi.looksAt ops := List.mem_append_left _ (List.mem_filterMap.2 ⟨.tmp t, hm, rfl⟩)
    by_cases h1 : ∃ j ∈ qs, ∃ oj, ops[j]? = some oj ∧ oj.dst = some t
    · obtain ⟨j, hj, oj, hoj, hdj⟩ := h1
      obtain ⟨e1, he1, hb1, hon⟩ := waitsB_spec ((L.putq p hp j hj).2 oj oi t hoj hoi hdj ht)
      have hl := hall e1 he1 hb1
      rw [hon] at hl
      exact I.q j hj oj t hoj hdj hl
    · have n1 : ∀ j ∈ qs, ∀ oj, ops[j]? = some oj → oj.dst ≠ some t := fun j hj oj hoj hdj => h1 ⟨j, hj, oj, hoj, hdj⟩
      rw [L.rest t n1]
      exact I.un t (fun j hj _ => n1 j hj) fun c hc' _ h => (hbs c hc').2 (h ▸ ht)
  have hx : a.eval (.tmp p.v) = .agg p.cs := by rw [← L.pval p hp]; simp only [Act.eval, Array.getD_eq_getD_getElem?, same p.v (by rw [hop]; simp [Op.operands])]
  have hpt : a.eval (.tmp p.dt) = .pointer (some ⟨p.B, 0, none⟩) := by rw [← L.pptr p hp]; simp only [Act.eval, Array.getD_eq_getD_getElem?, same p.dt (by rw [hop]; simp [Op.operands])]
  unfold wpOp
  simp only [hoi]
  have hw : Region.wanted oi (yielded ops a.tmps) = true := by simp [Region.wanted, hg]
  simp only [hw, if_true]
  refine .inl ?_
  have hrun : (execOp a.eval oi).run P w = .ok .skip w1 := by
    simp only [execOp, hop]
    rw [Sem.run_bind, hpt, hx, hw1]
    rfl
  simp only [Oper.wp, hrun, Oper.upon, hd]
  have other : ∀ q ∈ ps, q ≠ p → q.B ≠ p.B := fun q hq hne e => hne (L.binj q hq p hp e)
  obtain ⟨Wy, hWy⟩ : ∃ Wy : World, Wy = { Wx with heap := Wx.heap.setIfInBounds p.B (.cells p.cs p.T (0, 0)) } := ⟨_, rfl⟩
  have y1 : Wy.heap[p.B]? = some (.cells p.cs p.T (0, 0)) := by
    have : p.B < Wx.heap.size := by rw [hWx.near.size]; exact hBW
    rw [hWy]; simp [this]
  have y2 : ∀ k, k ≠ p.B → Wy.heap[k]? = Wx.heap[k]? := fun k hk => by
    rw [hWy]; simp only [Array.getElem?_setIfInBounds]; rw [if_neg (Ne.symm hk)]
  have y3 : Wy.heap.size = Wx.heap.size := by rw [hWy]; simp
  refine ⟨by simp [I.size], hcl, I.tsize, I.defers, ?_, ?_, ?_, Wy, ⟨⟨?_, y3.trans hWx.near.size, by rw [hWy]; exact hWx.near.os, by rw [hWy]; exact hWx.near.tape, by rw [hWy]; exact hWx.near.output⟩, ?_, ?_⟩, ?_⟩
  · intro j hj oj t hoj hdj hl
    rw [listed_set hil] at hl
    exact I.q j hj oj t hoj hdj (hl.resolve_left (L.putq p hp j hj).1)
  · intro c hc hl
    rw [listed_set hil] at hl
    have hl' := hl.resolve_left (hbs c hc).1
    exact ⟨(I.bx c hc hl').1, L.pstable c hc _ p hp w w1 (I.bx c hc hl').2 hput⟩
  · intro t h1 h2
    exact I.un t (fun j hj hl => h1 j hj ((listed_set hil).2 (.inr hl))) fun c hc hl => h2 c hc ((listed_set hil).2 (.inr hl))
  · intro k hk
    rw [y2 k (Ne.symm (hk p hp))]
    exact hWx.near.far k hk
  · intro q hq hl
    by_cases hqp : q = p
    · subst hqp; exact y1
    · rw [y2 _ (other q hq hqp)]
      rw [listed_set hil] at hl
      exact hWx.own q hq (hl.resolve_left (fun e => hqp (L.pinj q hq p hp e)))
  · intro q hq hl
    have hqp : q ≠ p := fun e => by subst e; rw [(listed_set hil).2 (.inl rfl)] at hl; cases hl
    rw [y2 _ (other q hq hqp)]
    refine hWx.un q hq ?_
    cases h : listed.getD q.i false with
    | false => rfl
    | true => rw [(listed_set hil).2 (.inr h)] at hl; cases hl
  · refine ⟨by rw [hput.os, hlow.os, hWy], by rw [hput.tape, hlow.tape, hWy], by rw [hput.output, hlow.output, hWy], by rw [y3, hput.size]; exact hlow.size, fun k hk => ?_⟩
    by_cases hkp : k = p.B
    · rw [hkp, y1]; exact hput.own
    · rw [y2 k hkp, hput.far k hkp]; exact hlow.block k hk

theorem PutLaw.any (L : PutLaw P md ops qs bs ps W a0 aH Q) (hQ : ∀ β w' Wx, PutNear W ps Wx → (∀ p ∈ ps, Wx.heap[p.B]? = some (.cells p.cs p.T (0, 0))) → Below W.heap.size Wx w' → (∀ b ∈ bs, b.Φ (β b.d) w') → Q .normal (loosePut bs β aH) w') :
    ∀ (fuel : Nat) (listed : Array Bool) (β : Nat → Value) (a : Act) (w : World), listed.toList.count false ≤ fuel → PutInv md ops qs bs ps W a0 aH listed β a w → wpAny P md ops Q fuel listed a w := by
  have fin : ∀ (listed : Array Bool) (β : Nat → Value) (a : Act) (w : World), PutInv md ops qs bs ps W a0 aH listed β a w → Region.ready md ops listed = [] → Q .normal a w := by
    intro listed β a w I h0
    have all : ∀ i, i < ops.size → listed.getD i true = true := by
      intro i
      induction i using Nat.strongRecOn with
      | _ i ih =>
        intro hi
        cases hl : listed.getD i true with
        | true => rfl
        | false =>
          exfalso
          have : i ∈ Region.ready md ops listed := mem_ready.2 ⟨hl, ops[i], Array.getElem?_eq_getElem hi, fun e he hb => by
            have hlt := L.back i _ (Array.getElem?_eq_getElem hi) e he hb
            have := ih e.on hlt (by omega)
            have hs : e.on < listed.size := by rw [I.size]; omega
            simp [hs] at this ⊢; exact this⟩
          rw [h0] at this; cases this
    have all' : ∀ i, i < ops.size → listed.getD i false = true := fun i hi => by
      have := all i hi
      have hs : i < listed.size := by rw [I.size]; exact hi
      simp [hs] at this ⊢; exact this
    have ai : ∀ b ∈ bs, listed.getD b.i false = true := fun b hb => by
      obtain ⟨o, ho, _⟩ := L.own b hb; exact all' _ (Array.getElem?_eq_some_iff.1 ho).1
    have ea : a = loosePut bs β aH := by
      have hsz := loosePut_size β bs aH
      have ht : a.tmps = (loosePut bs β aH).tmps := by
        apply Array.ext_getElem?
        intro t
        rw [loosePut_get]
        by_cases h1 : ∃ b ∈ bs, b.d = t
        · obtain ⟨b, hb, hd⟩ := h1
          rw [if_pos ⟨⟨b, hb, hd⟩, by rw [L.asize, ← hd]; exact L.dlt b hb⟩, ← hd]
          exact (I.bx b hb (ai b hb)).1
        · rw [if_neg (fun h => h1 h.1)]
          by_cases h2 : ∃ j ∈ qs, ∃ oj, ops[j]? = some oj ∧ oj.dst = some t
          · obtain ⟨j, hj, oj, hoj, hd⟩ := h2
            exact I.q j hj oj t hoj hd (all' j (Array.getElem?_eq_some_iff.1 hoj).1)
          · have n1 : ∀ j ∈ qs, ∀ oj, ops[j]? = some oj → oj.dst ≠ some t := fun j hj oj hoj hd => h2 ⟨j, hj, oj, hoj, hd⟩
            rw [L.rest t n1]
            exact I.un t (fun j hj _ => n1 j hj) fun b hb _ h => h1 ⟨b, hb, h⟩
      have hdf : a.defers = (loosePut bs β aH).defers := by rw [hsz.2, L.adefers, I.defers]
      cases a
      cases hb : loosePut bs β aH
      rw [hb] at ht hdf
      simp only at ht hdf
      subst ht hdf
      rfl
    rw [ea]
    obtain ⟨Wx, hWx, hlow⟩ := I.low
    exact hQ β w Wx hWx.near (fun p hp => hWx.own p hp (by obtain ⟨s, hs, _⟩ := L.puts p hp; exact all' _ (Array.getElem?_eq_some_iff.1 hs).1)) hlow fun b hb => (I.bx b hb (ai b hb)).2
  intro fuel
  induction fuel with
  | zero =>
    intro listed β a w hc I
    have h0 : Region.ready md ops listed = [] := by
      cases h : Region.ready md ops listed with
      | nil => rfl
      | cons i l =>
        exfalso
        have hi : i ∈ Region.ready md ops listed := by rw [h]; simp
        obtain ⟨hun, o, ho, _⟩ := mem_ready.1 hi
        have hs : i < listed.size := by rw [I.size]; exact (Array.getElem?_eq_some_iff.1 ho).1
        have : listed.toList.count false = 0 := by omega
        rw [List.count_eq_zero] at this
        apply this
        simp [hs] at hun
        rw [← hun]
        simp
    exact ⟨h0, fin listed β a w I h0⟩
  | succ fuel ih =>
    intro listed β a w hc I
    refine ⟨fin listed β a w I, fun i hi => ?_⟩
    obtain ⟨hun, o, ho, _⟩ := mem_ready.1 hi
    have hlt := (Array.getElem?_eq_some_iff.1 ho).1
    have hs : i < listed.size := by rw [I.size]; exact hlt
    have hc' : (listed.setIfInBounds i true).toList.count false ≤ fuel := by
      have := count_set (l := listed.toList) (i := i) (by simpa using hs) (by simp [hs] at hun; simp [hs, hun])
      rw [Array.toList_setIfInBounds]
      omega
    rcases L.cover i hlt with h | ⟨b, hb, rfl⟩ | ⟨p, hp, rfl⟩
    · exact wpOp_mono (fun a' w' I' => ih _ β a' w' hc' I') (L.step_quiet I hi h)
    · exact wpOp_mono (fun a' w' ⟨β', I'⟩ => ih _ β' a' w' hc' I') (L.step_loose I hb hi)
    · exact wpOp_mono (fun a' w' I' => ih _ β a' w' hc' I') (L.step_put I hp hi)

/-- **A region that draws its order: quiet operations, such as make memory, and stores into variables that lay there before.** -/
theorem wp_region_puts {id : Nat} {Q : Exit → Act → World → Prop} {a0 : Act} {W : World} {l : List Oper} (m : List Bool) (bs : List LooseD) (ps : List PutD)
    (hm : P.follows .mixedOrders = true) (hlen : m.length = l.length) (hB : Region.putsB .any l.toArray (idxM m 0) (bs.map LooseD.key) (ps.map (·.i)) = true)
    (hd : bs.all (fun b => Nat.ble (b.d + 1) a0.tmps.size) = true) (hst : ∀ b ∈ bs, ∀ v, StableW (b.Φ v))
    (hps : ∀ b ∈ bs, ∀ v, ∀ p ∈ ps, ∀ w w', b.Φ v w → Puts w w' p.B (.cells p.cs p.T (0, 0)) → b.Φ v w')
    (hpo : ∀ p ∈ ps, ∀ s, l.toArray[p.i]? = some s → s.op = .store p.T (.tmp p.dt) (.tmp p.v)) (hBi : ∀ p ∈ ps, ∀ q ∈ ps, p.B = q.B → p = q)
    (hold : ∀ p ∈ ps, W.heap[p.B]? = some (.cells p.old p.T (0, 0))) (hinfo : ∀ p ∈ ps, (P.info? p.T).map (·.size) = some p.cs.size) (hsz : ∀ p ∈ ps, p.old.size = p.cs.size) (hone : ∀ p ∈ ps, p.cs.all (·.oneCell') = true)
    (h : ∃ aH, (∀ Wx, PutNear W ps Wx → ∀ S : World → Prop, StableW S → (∃ x, S (gw Wx x)) → wpQuiet P l.toArray (fun w' => ∃ x : GrewS Wx S, w' = gw Wx x.g) (fun a' => a' = aH) (pickM m l) a0) ∧
      (∀ p ∈ ps, aH.eval (.tmp p.dt) = .pointer (some ⟨p.B, 0, none⟩) ∧ aH.eval (.tmp p.v) = .agg p.cs) ∧
      (∀ b ∈ bs, ∀ o, l.toArray[b.i]? = some o → ∀ a Wx w, PutNear W ps Wx → Below W.heap.size Wx w → (∀ t ∈ o.looksAt l.toArray, (∀ c ∈ bs, c.d ≠ t) → a.tmps[t]? = aH.tmps[t]?) →
        (∀ c ∈ bs, c.d ∈ o.looksAt l.toArray → ∃ v, a.tmps[c.d]? = some v ∧ c.Φ v w) →
        o.wp P a w (fun a' w' => ∃ v, a' = a.put o.dst v ∧ Below w.heap.size w w' ∧ b.Φ v w') Q ∨ (o.asks P a w ∧ LetsOut Q)) ∧
      ∀ β w' Wx, PutNear W ps Wx → (∀ p ∈ ps, Wx.heap[p.B]? = some (.cells p.cs p.T (0, 0))) → Below W.heap.size Wx w' → (∀ b ∈ bs, b.Φ (β b.d) w') → Q .normal (loosePut bs β aH) w') :
    (Code.region id l.toArray true).wp P Q a0 W := by
  obtain ⟨aH, hw, hpv, hrun, hQ⟩ := h
  simp only [Region.putsB, Bool.and_eq_true] at hB
  obtain ⟨⟨⟨⟨⟨⟨hsel, hcov⟩, hback⟩, hqs⟩, hbq⟩, hbx⟩, hks, hnd⟩ := hB
  have hks' : ∀ p ∈ ps, Region.putSB l.toArray p.i (bs.map LooseD.key) = true ∧ ∀ i ∈ idxM m 0, Region.putQB .any l.toArray p.i i = true := fun p hp => by
    have := List.all_eq_true.1 hks p.i (List.mem_map_of_mem hp)
    simp only [Bool.and_eq_true, List.all_eq_true] at this
    exact this
  have near0 : PutNear W ps W := ⟨fun _ _ => rfl, rfl, rfl, rfl, rfl⟩
  have hpm := pick_map (ops := l.toArray) m l 0 hlen (fun j => by simp)
  have mem : ∀ {js : List Nat} {os : List Oper}, os.map some = js.map (fun i => l.toArray[i]?) → ∀ t : Nat, (∀ j ∈ js, ∀ oj, l.toArray[j]? = some oj → oj.dst ≠ some t) → ∀ o ∈ os, o.dst ≠ some t := by
    intro js os e t h o ho
    have : some o ∈ js.map (fun i => l.toArray[i]?) := by rw [← e]; exact List.mem_map_of_mem ho
    obtain ⟨j, hj, hjo⟩ := List.mem_map.1 this
    exact h j hj o hjo
  have h0 := hw W near0 (fun _ => True) (fun _ _ _ _ => trivial) ⟨⟨#[], W.drawn⟩, trivial⟩
  obtain ⟨e1, e2, e3⟩ := quiet_end _ _ h0
  obtain ⟨bx1, bx2⟩ := loosesB_spec bs hbx
  have hp : ∀ b ∈ bs, ∀ c ∈ bs, b ≠ c → LooseS .any l.toArray b c := fun b hb c hc hne => pairwise_of (fun _ _ h => h.symm) bx2 b hb c hc hne
  have inj : ∀ b ∈ bs, ∀ c ∈ bs, b.i = c.i → b = c := fun b hb c hc e => Classical.byContradiction fun hne => (hp b hb c hc hne).ii e
  have L : PutLaw P .any l.toArray (idxM m 0) bs ps W a0 aH Q := by
    refine ⟨hsel, fun i hi => ?_, fun p hpp i hi => putQB_spec ((hks' p hpp).2 i hi), fun p hpp => putSB_spec (hks' p hpp).1, nodupB_spec hnd, hBi, hpo, fun p hpp => (hpv p hpp).1, fun p hpp => (hpv p hpp).2, hold, hinfo, hsz, hone, hps,
      fun i o ho e he hb => ?_, fun pre i post e => quietsB_spec pre i post (by rw [← e]; exact hqs), fun b hb i hi => ?_, bx1, fun b hb c hc hne => hp b hb c hc (fun e => hne (by rw [e])), inj,
      hst, hrun, fun b hb => Nat.le_of_ble_eq_true (List.all_eq_true.1 hd b hb), e1, e2, fun t ht => e3 t (mem hpm t ht), fun Wx hWx S hSt hx pre i post e => ?_⟩
    · have := List.all_eq_true.1 hcov i (List.mem_range.2 hi)
      simp only [Bool.or_eq_true, List.contains_iff_mem, List.any_eq_true, beq_iff_eq] at this
      rcases this with h | ⟨k, hk, h⟩ | h
      · exact .inl h
      · obtain ⟨b, hb, rfl⟩ := List.mem_map.1 hk
        exact .inr (.inl ⟨b, hb, h.symm⟩)
      · obtain ⟨p, hp, h⟩ := List.mem_map.1 h
        exact .inr (.inr ⟨p, hp, h.symm⟩)
    · have := List.all_eq_true.1 hback i (List.mem_range.2 (Array.getElem?_eq_some_iff.1 ho).1)
      simp only [Region.backB, ho, Array.all_eq_true_iff_forall_mem] at this
      have h := this e he
      simp only [hb, Bool.not_true, Bool.false_or, decide_eq_true_eq] at h
      exact h
    · exact looseQB_spec (List.all_eq_true.1 (List.all_eq_true.1 hbq b.key (List.mem_map_of_mem hb)) i hi)
    · rw [e, List.map_append, List.map_cons] at hpm
      obtain ⟨p1, p2, q0, q1, q2⟩ := List.map_eq_append_iff.1 hpm
      obtain ⟨o, p3, r0, r1, r2⟩ := List.map_eq_cons_iff.1 q2
      subst r0
      have hwS := hw Wx hWx S hSt hx
      rw [q0] at hwS
      obtain ⟨ap, v, y, _, z2, z3, z4⟩ := quiet_at p1 o p3 a0 hwS
      exact ⟨o, ap, v, r1.symm, y, fun t ht => z2 t (mem q1 t ht), fun t hd ht => z3 t hd (mem r2 t ht), fun t hd ht => z4 t hd (mem r2 t ht)⟩
  refine wp_region_any hm (L.any hQ _ _ (fun _ => undef) _ _ (by simp) ?_)
  have nl : ∀ j, (Array.replicate l.toArray.size false).getD j false = true → False := fun j h => by rw [getD_replicate_false] at h; cases h
  exact ⟨by simp, fun j _ _ h => absurd h (nl j), rfl, rfl, fun i _ _ _ _ _ h => absurd h (nl i), fun b _ h => absurd h (nl b.i), fun _ _ _ => rfl, W, ⟨near0, fun p _ h => absurd h (nl p.i), fun _ _ _ => rfl⟩, (Below.refl _ W).drew⟩
end
end Go

namespace Go
open Go.RowKit
section
variable {P : Program} {w : World}
theorem run_append_owned_nothing (base : Nat) (t ty e : TypeId) (i : TypeInfo) (size : Nat) (ht : P.underlying t = some (.slice e)) (hi : P.info? e = some i)
    (v : Value) (n : Nat) (xs : List Value) (hown : w.ownsRow base e size v n xs) (ax : Option Addr) (c : Nat) :
    (Builtin.append_ #[t, t] ty #[v, .slice ax 0 c]).run P w = .ok v w := by
  rcases hown.2 with ⟨rfl, rfl⟩ | ⟨g, cap, cur, rfl, _, _, hnc, _⟩
  · cases ax <;> simp [Builtin.append_, run_underlying ht, sizeOf, typeInfo, hi, Builtin.lenOf, Builtin.firstCells, storeCells, loadCells, loadCellsFrom, Result.andThen]
  · cases ax <;> simp [Builtin.append_, run_underlying ht, sizeOf, typeInfo, hi, Builtin.lenOf, Builtin.firstCells, hnc, storeCells, loadCells, loadCellsFrom, Result.andThen]

/-- append(a, b...): a is an owned row, b lies anywhere -/
theorem wp_append_src {o : Oper} {a : Act} {K : Act → World → Prop} {Q : Exit → Act → World → Prop} (s x : Operand) (t : TypeId)
    (ho : o.op = .call { callee := .builtin .append, args := #[s, x], argTypes := #[t, t] })
    (base : Nat) (e : TypeId) (i : TypeInfo) (z : Value) (size bytes : Nat) (ht : P.underlying t = some (.slice e)) (hi : P.info? e = some i) (hz : i.zero = some z)
    (hsize : i.size = size) (hby : i.bytes = bytes) (hzs : z.cells.size = size) (hsz : 0 < size)
    (v : Value) (n : Nat) (xs : List Value) (hs : a.eval s = v) (hown : w.ownsRow base e size v n xs)
    (ax : Option Addr) (m c : Nat) (news : List Value) (hx : a.eval x = .slice ax m c) (hn : news.length = m * size) (hc : m = 0 ∨ ∃ ad, ax = some ad ∧ ∀ j u, news[j]? = some u → w.cell? (ad.add j) = some u) (h1 : ∀ u ∈ news, u.oneCell' = true)
    (h63 : n + m ≤ maxLen) (hbytes : (n + m) * bytes ≤ 140737488355328) (hbase : base ≤ w.heap.size)
    (h : ∀ v' w', w'.ownsRow base e size v' (n + m) (xs ++ news) → w.grownBy w' v.ownBlock → K (a.put o.dst v') w') : o.wp P a w K Q := by
  by_cases hm : m = 0
  · subst hm
    obtain rfl : news = [] := List.eq_nil_of_length_eq_zero (by simpa using hn)
    have hrun := run_append_owned_nothing (P := P) (w := w) base t o.type e i size ht hi v n xs hown ax c
    unfold Oper.wp
    simp [execOp, ho, resolve, invoke, builtin, hs, hx, hrun, Result.andThen]
    exact h v w (by simpa using hown) ⟨rfl, rfl, rfl, Nat.le_refl _, fun _ _ _ => rfl⟩
  · obtain ⟨ad, rfl, hcc⟩ := hc.resolve_left hm
    exact wp_append_own w s x t ho base e i z size bytes ht hi hz hsize hby hzs hsz v n xs hs hown ad m c news hx hn hcc h1 h63 hbytes hbase fun v' w' h2 h3 _ => h v' w' h2 h3

theorem wpList_append_src {ops : Array Oper} {rest : List Oper} {o : Oper} {a : Act} {Q : Exit → Act → World → Prop} (hgd : Region.wanted o (yielded ops a.tmps) = true) (s x : Operand) (t : TypeId)
    (ho : o.op = .call { callee := .builtin .append, args := #[s, x], argTypes := #[t, t] })
    (base : Nat) (e : TypeId) (i : TypeInfo) (z : Value) (size bytes : Nat) (ht : P.underlying t = some (.slice e)) (hi : P.info? e = some i) (hz : i.zero = some z)
    (hsize : i.size = size) (hby : i.bytes = bytes) (hzs : z.cells.size = size) (hsz : 0 < size)
    (v : Value) (n : Nat) (xs : List Value) (hs : a.eval s = v) (hown : w.ownsRow base e size v n xs)
    (ax : Option Addr) (m c : Nat) (news : List Value) (hx : a.eval x = .slice ax m c) (hn : news.length = m * size) (hc : m = 0 ∨ ∃ ad, ax = some ad ∧ ∀ j u, news[j]? = some u → w.cell? (ad.add j) = some u) (h1 : ∀ u ∈ news, u.oneCell' = true)
    (h63 : n + m ≤ maxLen) (hbytes : (n + m) * bytes ≤ 140737488355328) (hbase : base ≤ w.heap.size)
    (h : ∀ v' w', w'.ownsRow base e size v' (n + m) (xs ++ news) → w.grownBy w' v.ownBlock → wpList P ops Q rest (a.put o.dst v') w') : wpList P ops Q (o :: rest) a w :=
  wpList_wanted hgd fun K hK => wp_append_src s x t ho base e i z size bytes ht hi hz hsize hby hzs hsz v n xs hs hown ax m c news hx hn hc h1 h63 hbytes hbase fun v' w' h2 h3 => hK _ _ (h v' w' h2 h3)

theorem step_append_src {ops : Array Oper} {o : Oper} {a : Act} {K : Act → World → Prop} {Q : Exit → Act → World → Prop} {E : Prop} (hg : o.guard = none) (s x : Operand) (t : TypeId)
    (ho : o.op = .call { callee := .builtin .append, args := #[s, x], argTypes := #[t, t] })
    (base : Nat) (e : TypeId) (i : TypeInfo) (z : Value) (size bytes : Nat) (ht : P.underlying t = some (.slice e)) (hi : P.info? e = some i) (hz : i.zero = some z)
    (hsize : i.size = size) (hby : i.bytes = bytes) (hzs : z.cells.size = size) (hsz : 0 < size)
    (v : Value) (n : Nat) (xs : List Value) (hs : a.eval s = v) (hown : w.ownsRow base e size v n xs)
    (ax : Option Addr) (m c : Nat) (news : List Value) (hx : a.eval x = .slice ax m c) (hn : news.length = m * size) (hc : m = 0 ∨ ∃ ad, ax = some ad ∧ ∀ j u, news[j]? = some u → w.cell? (ad.add j) = some u) (h1 : ∀ u ∈ news, u.oneCell' = true)
    (h63 : n + m ≤ maxLen) (hbytes : (n + m) * bytes ≤ 140737488355328) (hbase : base ≤ w.heap.size)
    (h : ∀ v' w', w'.ownsRow base e size v' (n + m) (xs ++ news) → w.grownBy w' v.ownBlock → K (a.put o.dst v') w') :
    if Region.wanted o (yielded ops a.tmps) = true then Oper.wp P o a w K Q else E := by
  have hw : Region.wanted o (yielded ops a.tmps) = true := by simp [Region.wanted, hg]
  rw [if_pos hw]
  exact wp_append_src s x t ho base e i z size bytes ht hi hz hsize hby hzs hsz v n xs hs hown ax m c news hx hn hc h1 h63 hbytes hbase h
end
end Go
namespace Go.Proofs.YtjgnafhbeekebaaGreat
open Go.RowKit

theorem own_form {w : World} {base k size : Nat} {e : TypeId} {v : Value} {xs : List Value} (h : w.ownsRow base e size v k xs) : ∃ a cap, v = .slice a k cap := by
  rcases h.2 with ⟨rfl, rfl⟩ | ⟨g, cap, cur, rfl, -⟩
  · exact ⟨none, 0, rfl⟩
  · exact ⟨_, _, rfl⟩
/-- a row of K elements, of sz cells each, may be overwritten -/
structure ScrN (e : TypeId) (sz K : Nat) (a1 : Option Addr) (row : Option Nat) (W wr : World) : Prop where
  gr : W.grownBy wr row
  blk : 0 < K → ∃ g cur, a1 = some ⟨g, 0, none⟩ ∧ wr.heap[g]? = some (.cells cur e (0, 0)) ∧ K * sz ≤ cur.size
theorem scrN_start {e : TypeId} {sz K ca base : Nat} {a1 : Option Addr} {xs : List Value} {W : World} (h : W.ownsRow base e sz (.slice a1 K ca) K xs) : ScrN e sz K a1 (Value.slice a1 K ca).ownBlock W W := by
  refine ⟨⟨rfl, rfl, rfl, Nat.le_refl _, fun _ _ _ => rfl⟩, fun hK => ?_⟩
  rcases h.2 with ⟨h1, h2⟩ | ⟨g, cap, cur, h1, _, h3, h4, _, h6, _⟩
  · omega
  · cases h1
    exact ⟨g, cur, rfl, h3, by rw [h6]; exact Nat.mul_le_mul_right sz h4⟩
theorem ScrN.set {e : TypeId} {sz K ca g : Nat} {a1 : Option Addr} {W wr : World} (h : ScrN e sz K a1 (Value.slice a1 K ca).ownBlock W wr) (ha : a1 = some ⟨g, 0, none⟩) (q : Nat) (x : Value) :
    ScrN e sz K a1 (Value.slice a1 K ca).ownBlock W (wr.setCell ⟨g, q, none⟩ x) := by
  subst ha
  refine ⟨grownBy_trans h.gr (grownBy_set wr g q x), fun hK => ?_⟩
  obtain ⟨g', cur, e1, h2, h3⟩ := h.blk hK
  cases e1
  exact ⟨g, _, rfl, block_set q x h2, by simpa using h3⟩

theorem spansV_append (A B A' B' : Nat → Int) (n : Nat) : ∀ m, spansV n A B ++ spansV m A' B' = spansV (n + m) (fun i => if i < n then A i else A' (i - n)) (fun i => if i < n then B i else B' (i - n))
  | 0 => by
    rw [show spansV 0 A' B' = [] from rfl, List.append_nil]
    unfold spansV
    rw [List.flatMap_def, List.flatMap_def]
    congr 1
    refine List.map_congr_left fun j hj => ?_
    have := List.mem_range.1 hj
    simp [show j < n by omega]
  | m + 1 => by
    rw [spansV_succ, ← List.append_assoc, spansV_append A B A' B' n m, ← Nat.add_assoc, spansV_succ]
    simp [show ¬ n + m < n by omega]
/-- n elements of c numbers each -/
def tupsV (c n : Nat) (F : Nat → Nat → Int) : List Value := (List.range (n * c)).map fun j => .int .i64 (F (j / c) (j % c))
theorem tupsV_len (c n : Nat) (F : Nat → Nat → Int) : (tupsV c n F).length = n * c := by simp [tupsV]
theorem tupsV_one (c n : Nat) (F : Nat → Nat → Int) : ∀ u ∈ tupsV c n F, u.oneCell' = true := by
  intro u hu
  simp only [tupsV, List.mem_map] at hu
  obtain ⟨j, _, rfl⟩ := hu
  rfl
theorem tups_div {c i q : Nat} (h : q < c) : (i * c + q) / c = i ∧ (i * c + q) % c = q := by
  have hc : 0 < c := by omega
  refine ⟨?_, ?_⟩
  · rw [Nat.mul_comm, Nat.mul_add_div hc, Nat.div_eq_of_lt h, Nat.add_zero]
  · rw [Nat.mul_comm, Nat.mul_add_mod, Nat.mod_eq_of_lt h]
theorem tups_lt {c n i q : Nat} (hi : i < n) (h : q < c) : i * c + q < n * c :=
  Nat.lt_of_lt_of_le (Nat.add_lt_add_left h _) (by rw [← Nat.succ_mul]; exact Nat.mul_le_mul_right c hi)
theorem tupsV_get (c : Nat) {n i q : Nat} (F : Nat → Nat → Int) (hi : i < n) (h : q < c) : (tupsV c n F)[i * c + q]? = some (.int .i64 (F i q)) := by
  simp only [tupsV, List.getElem?_map, List.getElem?_range (tups_lt hi h), Option.map_some]
  rw [(tups_div h).1, (tups_div h).2]
theorem tupsV_succ (c n : Nat) (F : Nat → Nat → Int) : tupsV c (n + 1) F = tupsV c n F ++ (List.range c).map fun q => .int .i64 (F n q) := by
  unfold tupsV
  rw [Nat.succ_mul, List.range_add, List.map_append, List.map_map]
  congr 1
  refine List.map_congr_left fun q hq => ?_
  have := List.mem_range.1 hq
  simp only [Function.comp]
  rw [(tups_div this).1, (tups_div this).2]
def TupsAt (w : World) (a : Option Addr) (c n : Nat) (F : Nat → Nat → Int) : Prop :=
  n = 0 ∨ ∃ b off, a = some ⟨b, off, none⟩ ∧ b < w.heap.size ∧ ∀ i, i < n → ∀ q, q < c → w.cell? ⟨b, off + i * c + q, none⟩ = some (.int .i64 (F i q))
theorem TupsAt.below {w w' : World} {a : Option Addr} {c n : Nat} {F : Nat → Nat → Int} (h : TupsAt w a c n F) (hb : Below w.heap.size w w') : TupsAt w' a c n F := by
  rcases h with h | ⟨b, off, rfl, hlt, hc⟩
  · exact .inl h
  · exact .inr ⟨b, off, rfl, Nat.lt_of_lt_of_le hlt hb.size, fun i hi q hq => (hb.cell (p := ⟨b, _, none⟩) hlt).trans (hc i hi q hq)⟩
theorem tups_news {w : World} {a : Option Addr} {c n : Nat} {F : Nat → Nat → Int} (h : TupsAt w a c n F) : n = 0 ∨ ∃ ad, a = some ad ∧ ∀ j u, (tupsV c n F)[j]? = some u → w.cell? (ad.add j) = some u := by
  rcases h with h | ⟨b, off, rfl, _, hc⟩
  · exact .inl h
  · refine .inr ⟨_, rfl, fun j u hu => ?_⟩
    have hj : j < n * c := by have := (List.getElem?_eq_some_iff.1 hu).1; rwa [tupsV_len] at this
    have hc0 : 0 < c := by rcases Nat.eq_zero_or_pos c with h0 | h0; (· subst h0; simp at hj); (· exact h0)
    have hq := Nat.mod_lt j hc0
    have hi : j / c < n := (Nat.div_lt_iff_lt_mul hc0).2 hj
    have e : j / c * c + j % c = j := by rw [Nat.mul_comm]; exact Nat.div_add_mod j c
    have g := tupsV_get c F hi hq
    rw [e, hu] at g
    cases g
    have := hc _ hi _ hq
    rw [addr_add]
    rwa [Nat.add_assoc, e] at this
theorem tups_of_own {w : World} {base c n : Nat} {e : TypeId} {F : Nat → Nat → Int} {v : Value} (h : w.ownsRow base e c v n (tupsV c n F)) : ∃ a cap, v = .slice a n cap ∧ TupsAt w a c n F := by
  rcases h.2 with ⟨rfl, h0⟩ | ⟨g, cap, cur, rfl, hg, hgb, _⟩
  · exact ⟨none, 0, by rw [h0], .inl h0⟩
  · refine ⟨_, cap, rfl, .inr ⟨g, 0, rfl, (Array.getElem?_eq_some_iff.1 hgb).1, fun i hi q hq => ?_⟩⟩
    have := h.cells (g := g) rfl _ _ (tupsV_get c F hi hq)
    rw [addr_add] at this
    rwa [Nat.add_assoc]
end Go.Proofs.YtjgnafhbeekebaaGreat

namespace Go
open Go.RowKit
section
variable {P : Program}

structure Put2 (W : World) (B1 B2 : Nat) (o1 o2 : Obj) (w' : World) : Prop where
  b1 : w'.heap[B1]? = some o1
  b2 : w'.heap[B2]? = some o2
  far : ∀ k o, k ≠ B1 → k ≠ B2 → W.heap[k]? = some o → w'.heap[k]? = some o
  size : W.heap.size ≤ w'.heap.size
  os : w'.os = W.os
  tape : w'.tape = W.tape
  output : w'.output = W.output
theorem Put2.below {w W w' : World} {B1 B2 n : Nat} {o1 o2 : Obj} (h : Put2 W B1 B2 o1 o2 w') (hb : Below n w W) (hw : n ≤ w.heap.size) (h1 : n ≤ B1) (h2 : n ≤ B2) : Below n w w' := by
  refine ⟨h.os.trans hb.os, h.tape.trans hb.tape, h.output.trans hb.output, Nat.le_trans hb.size h.size, fun k hk => ?_⟩
  have e := hb.block k hk
  have hk2 : k < W.heap.size := Nat.lt_of_lt_of_le (Nat.lt_of_lt_of_le hk hw) hb.size
  rw [← e, Array.getElem?_eq_getElem hk2]
  exact h.far k _ (by omega) (by omega) (Array.getElem?_eq_getElem hk2)

theorem wp_region_put2 {id : Nat} {Q : Exit → Act → World → Prop} {a0 : Act} {W : World} {l : List Oper} (m : List Bool) (p q : PutD)
    (hm : P.follows .mixedOrders = true) (hlen : m.length = l.length) (hB : Region.putsB .any l.toArray (idxM m 0) [] [p.i, q.i] = true)
    (hpo : ∀ s, l.toArray[p.i]? = some s → s.op = .store p.T (.tmp p.dt) (.tmp p.v)) (hqo : ∀ s, l.toArray[q.i]? = some s → s.op = .store q.T (.tmp q.dt) (.tmp q.v)) (hne : p.B ≠ q.B)
    (hold1 : W.heap[p.B]? = some (.cells p.old p.T (0, 0))) (hold2 : W.heap[q.B]? = some (.cells q.old q.T (0, 0)))
    (hi1 : (P.info? p.T).map (·.size) = some p.cs.size) (hi2 : (P.info? q.T).map (·.size) = some q.cs.size) (hs1 : p.old.size = p.cs.size) (hs2 : q.old.size = q.cs.size) (ho1 : p.cs.all (·.oneCell') = true) (ho2 : q.cs.all (·.oneCell') = true)
    (h : ∃ aH, (∀ Wx, (∀ k o, k ≠ p.B → k ≠ q.B → W.heap[k]? = some o → Wx.heap[k]? = some o) → Wx.heap.size = W.heap.size → ∀ S : World → Prop, StableW S → Nonempty (GrewS Wx S) → wpQuiet P l.toArray (fun w' => ∃ x : GrewS Wx S, w' = gw Wx x.g) (fun a' => a' = aH) (pickM m l) a0) ∧
      (aH.eval (.tmp p.dt) = .pointer (some ⟨p.B, 0, none⟩) ∧ aH.eval (.tmp p.v) = .agg p.cs) ∧ (aH.eval (.tmp q.dt) = .pointer (some ⟨q.B, 0, none⟩) ∧ aH.eval (.tmp q.v) = .agg q.cs) ∧
      ∀ w', Put2 W p.B q.B (.cells p.cs p.T (0, 0)) (.cells q.cs q.T (0, 0)) w' → Q .normal aH w') :
    (Code.region id l.toArray true).wp P Q a0 W := by
  obtain ⟨aH, hw, hp, hq, hQ⟩ := h
  have two : ∀ {r : PutD}, r ∈ [p, q] → r = p ∨ r = q := fun h => by simpa using h
  have far : ∀ Wx, PutNear W [p, q] Wx → ∀ k o, k ≠ p.B → k ≠ q.B → W.heap[k]? = some o → Wx.heap[k]? = some o := fun Wx hN k o h1 h2 h3 => (hN.far k (fun r hr => by rcases two hr with rfl | rfl <;> exact fun e => (by first | exact h1 e.symm | exact h2 e.symm))).trans h3
  refine wp_region_puts m [] [p, q] hm hlen hB (by rfl) (by simp) (by simp) ?_ ?_ ?_ ?_ ?_ ?_ ⟨aH, ?_, ?_, by simp, ?_⟩
  · intro r hr s hs
    rcases two hr with rfl | rfl
    · exact hpo s hs
    · exact hqo s hs
  · intro r hr s hs e
    rcases two hr with rfl | rfl <;> rcases two hs with rfl | rfl <;> first | rfl | exact absurd e hne | exact absurd e.symm hne
  · intro r hr
    rcases two hr with rfl | rfl
    · exact hold1
    · exact hold2
  · intro r hr
    rcases two hr with rfl | rfl
    · exact hi1
    · exact hi2
  · intro r hr
    rcases two hr with rfl | rfl
    · exact hs1
    · exact hs2
  · intro r hr
    rcases two hr with rfl | rfl
    · exact ho1
    · exact ho2
  · intro Wx hN S hS hx
    obtain ⟨x0, hx0⟩ := hx
    exact hw Wx (far Wx hN) hN.size S hS ⟨⟨x0, hx0⟩⟩
  · intro r hr
    rcases two hr with rfl | rfl
    · exact hp
    · exact hq
  · intro β w' Wx hN hown hb _
    have l1 : p.B < W.heap.size := (Array.getElem?_eq_some_iff.1 hold1).1
    have l2 : q.B < W.heap.size := (Array.getElem?_eq_some_iff.1 hold2).1
    refine hQ w' ⟨(hb.block _ l1).trans (hown p (by simp)), (hb.block _ l2).trans (hown q (by simp)), fun k o h1 h2 h3 => ?_, ?_, hb.os.trans hN.os, hb.tape.trans hN.tape, hb.output.trans hN.output⟩
    · exact (hb.block k (Array.getElem?_eq_some_iff.1 h3).1).trans (far Wx hN k o h1 h2 h3)
    · have := hb.size; rw [hN.size] at this; exact this
end
end Go

namespace Go
open Go.RowKit
section
variable {P : Program}

structure Put3 (W : World) (B1 B2 B3 : Nat) (o1 o2 o3 : Obj) (w' : World) : Prop where
  b1 : w'.heap[B1]? = some o1
  b2 : w'.heap[B2]? = some o2
  b3 : w'.heap[B3]? = some o3
  far : ∀ k o, k ≠ B1 → k ≠ B2 → k ≠ B3 → W.heap[k]? = some o → w'.heap[k]? = some o
  size : W.heap.size ≤ w'.heap.size
  os : w'.os = W.os
  tape : w'.tape = W.tape
  output : w'.output = W.output
theorem Put3.below {w W w' : World} {B1 B2 B3 n : Nat} {o1 o2 o3 : Obj} (h : Put3 W B1 B2 B3 o1 o2 o3 w') (hb : Below n w W) (hw : n ≤ w.heap.size) (h1 : n ≤ B1) (h2 : n ≤ B2) (h3 : n ≤ B3) : Below n w w' := by
  refine ⟨h.os.trans hb.os, h.tape.trans hb.tape, h.output.trans hb.output, Nat.le_trans hb.size h.size, fun k hk => ?_⟩
  have e := hb.block k hk
  have hk2 : k < W.heap.size := Nat.lt_of_lt_of_le (Nat.lt_of_lt_of_le hk hw) hb.size
  rw [← e, Array.getElem?_eq_getElem hk2]
  exact h.far k _ (by omega) (by omega) (by omega) (Array.getElem?_eq_getElem hk2)

theorem wp_region_put3 {id : Nat} {Q : Exit → Act → World → Prop} {a0 : Act} {W : World} {l : List Oper} (m : List Bool) (p q r : PutD)
    (hm : P.follows .mixedOrders = true) (hlen : m.length = l.length) (hB : Region.putsB .any l.toArray (idxM m 0) [] [p.i, q.i, r.i] = true)
    (hpo : ∀ s, l.toArray[p.i]? = some s → s.op = .store p.T (.tmp p.dt) (.tmp p.v)) (hqo : ∀ s, l.toArray[q.i]? = some s → s.op = .store q.T (.tmp q.dt) (.tmp q.v)) (hro : ∀ s, l.toArray[r.i]? = some s → s.op = .store r.T (.tmp r.dt) (.tmp r.v))
    (n1 : p.B ≠ q.B) (n2 : p.B ≠ r.B) (n3 : q.B ≠ r.B)
    (hold1 : W.heap[p.B]? = some (.cells p.old p.T (0, 0))) (hold2 : W.heap[q.B]? = some (.cells q.old q.T (0, 0))) (hold3 : W.heap[r.B]? = some (.cells r.old r.T (0, 0)))
    (hi1 : (P.info? p.T).map (·.size) = some p.cs.size) (hi2 : (P.info? q.T).map (·.size) = some q.cs.size) (hi3 : (P.info? r.T).map (·.size) = some r.cs.size)
    (hs1 : p.old.size = p.cs.size) (hs2 : q.old.size = q.cs.size) (hs3 : r.old.size = r.cs.size) (ho1 : p.cs.all (·.oneCell') = true) (ho2 : q.cs.all (·.oneCell') = true) (ho3 : r.cs.all (·.oneCell') = true)
    (h : ∃ aH, (∀ Wx, (∀ k o, k ≠ p.B → k ≠ q.B → k ≠ r.B → W.heap[k]? = some o → Wx.heap[k]? = some o) → Wx.heap.size = W.heap.size → ∀ S : World → Prop, StableW S → Nonempty (GrewS Wx S) → wpQuiet P l.toArray (fun w' => ∃ x : GrewS Wx S, w' = gw Wx x.g) (fun a' => a' = aH) (pickM m l) a0) ∧
      (aH.eval (.tmp p.dt) = .pointer (some ⟨p.B, 0, none⟩) ∧ aH.eval (.tmp p.v) = .agg p.cs) ∧ (aH.eval (.tmp q.dt) = .pointer (some ⟨q.B, 0, none⟩) ∧ aH.eval (.tmp q.v) = .agg q.cs) ∧ (aH.eval (.tmp r.dt) = .pointer (some ⟨r.B, 0, none⟩) ∧ aH.eval (.tmp r.v) = .agg r.cs) ∧
      ∀ w', Put3 W p.B q.B r.B (.cells p.cs p.T (0, 0)) (.cells q.cs q.T (0, 0)) (.cells r.cs r.T (0, 0)) w' → Q .normal aH w') :
    (Code.region id l.toArray true).wp P Q a0 W := by
  obtain ⟨aH, hw, hp, hq, hr, hQ⟩ := h
  have three : ∀ {x : PutD}, x ∈ [p, q, r] → x = p ∨ x = q ∨ x = r := fun h => by simpa using h
  have far : ∀ Wx, PutNear W [p, q, r] Wx → ∀ k o, k ≠ p.B → k ≠ q.B → k ≠ r.B → W.heap[k]? = some o → Wx.heap[k]? = some o := fun Wx hN k o h1 h2 h3 h4 => (hN.far k (fun x hx => by rcases three hx with rfl | rfl | rfl <;> exact fun e => (by first | exact h1 e.symm | exact h2 e.symm | exact h3 e.symm))).trans h4
  refine wp_region_puts m [] [p, q, r] hm hlen hB (by rfl) (by simp) (by simp) ?_ ?_ ?_ ?_ ?_ ?_ ⟨aH, ?_, ?_, by simp, ?_⟩
  · intro x hx s hs
    rcases three hx with rfl | rfl | rfl
    · exact hpo s hs
    · exact hqo s hs
    · exact hro s hs
  · intro x hx y hy e
    rcases three hx with rfl | rfl | rfl <;> rcases three hy with rfl | rfl | rfl <;> first | rfl | exact absurd e n1 | exact absurd e.symm n1 | exact absurd e n2 | exact absurd e.symm n2 | exact absurd e n3 | exact absurd e.symm n3
  · intro x hx
    rcases three hx with rfl | rfl | rfl
    · exact hold1
    · exact hold2
    · exact hold3
  · intro x hx
    rcases three hx with rfl | rfl | rfl
    · exact hi1
    · exact hi2
    · exact hi3
  · intro x hx
    rcases three hx with rfl | rfl | rfl
    · exact hs1
    · exact hs2
    · exact hs3
  · intro x hx
    rcases three hx with rfl | rfl | rfl
    · exact ho1
    · exact ho2
    · exact ho3
  · intro Wx hN S hS hx
    obtain ⟨x0, hx0⟩ := hx
    exact hw Wx (far Wx hN) hN.size S hS ⟨⟨x0, hx0⟩⟩
  · intro x hx
    rcases three hx with rfl | rfl | rfl
    · exact hp
    · exact hq
    · exact hr
  · intro β w' Wx hN hown hb _
    have l1 : p.B < W.heap.size := (Array.getElem?_eq_some_iff.1 hold1).1
    have l2 : q.B < W.heap.size := (Array.getElem?_eq_some_iff.1 hold2).1
    have l3 : r.B < W.heap.size := (Array.getElem?_eq_some_iff.1 hold3).1
    refine hQ w' ⟨(hb.block _ l1).trans (hown p (by simp)), (hb.block _ l2).trans (hown q (by simp)), (hb.block _ l3).trans (hown r (by simp)), fun k o h1 h2 h3 h4 => ?_, ?_, hb.os.trans hN.os, hb.tape.trans hN.tape, hb.output.trans hN.output⟩
    · exact (hb.block k (Array.getElem?_eq_some_iff.1 h4).1).trans (far Wx hN k o h1 h2 h3 h4)
    · have := hb.size; rw [hN.size] at this; exact this
end
end Go
