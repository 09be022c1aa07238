/- Contract of Weak. No conditions beyond each theorem's own. -/
import Derived.Test.YtljofnmgddfljaaBs
set_option linter.unusedVariables false
set_option linter.unusedSimpArgs false
set_option linter.unusedSectionVars false
set_option linter.constructorNameAsVariable false
namespace Go.Proofs.Ytljofnmgddfljaa
open Go.RowKit Go.Shelf

attribute [local go_sem] gw_cell gw_frozen gw_size Oper.semAt_some

/-- the error of Weak -/
def weakErr (C : Clim) (x : Cont) (k : Nat) (F G : Nat → Int) (tu least : Int) : Int :=
  if errH C x k F G tu = 1 then 1 else if inB least 0 10000 = true then errH C x k F G tu else 2
/-- how many days are surely strong enough, up to the first that is not -/
def weakI (C : Clim) (x : Cont) (k : Nat) (F G : Nat → Int) (least : Int) (i : Nat) : Int := if strLo (dayC C F G k x i) < least then 1 else 0
def weakS (C : Clim) (x : Cont) (k : Nat) (F G : Nat → Int) (m : Nat) (least : Int) : Nat := lb (weakI C x k F G least) 1 (m + 1)
def weakV (C : Clim) (x : Cont) (k : Nat) (F G : Nat → Int) (m : Nat) (least : Int) : Int := if weakS C x k F G m least < m + 1 then x.day + weakS C x k F G m least else 0
def weakE (C : Clim) (x : Cont) (k : Nat) (F G : Nat → Int) (m : Nat) (least : Int) : Int := if weakS C x k F G m least < m + 1 then 0 else 12
theorem weakI_lt {C : Clim} {x : Cont} {k : Nat} {F G : Nat → Int} {least : Int} {i : Nat} : weakI C x k F G least i < 1 ↔ least ≤ strLo (dayC C F G k x i) := by unfold weakI; split <;> omega
theorem weak_found {C : Clim} {x : Cont} {k : Nat} {F G : Nat → Int} {m : Nat} {least : Int} {j : Nat} (hj : j ≤ m) (h1 : ∀ i, i < j → least ≤ strLo (dayC C F G k x i)) (h2 : strLo (dayC C F G k x j) < least) : weakV C x k F G m least = x.day + j ∧ weakE C x k F G m least = 0 := by
  have : j = weakS C x k F G m least := lb_unique (by omega) (fun i hi => weakI_lt.2 (h1 i hi)) (fun _ h => by have := weakI_lt.1 h; omega)
  unfold weakV weakE
  rw [← this, if_pos (by omega), if_pos (by omega)]
  exact ⟨rfl, rfl⟩
theorem weak_none {C : Clim} {x : Cont} {k : Nat} {F G : Nat → Int} {m : Nat} {least : Int} (h1 : ∀ i, i < m + 1 → least ≤ strLo (dayC C F G k x i)) : weakV C x k F G m least = 0 ∧ weakE C x k F G m least = 12 := by
  have : m + 1 = weakS C x k F G m least := lb_unique (by omega) (fun i hi => weakI_lt.2 (h1 i hi)) (fun h => by omega)
  unfold weakV weakE
  rw [← this, if_neg (by omega), if_neg (by omega)]
  exact ⟨rfl, rfl⟩
structure WkJ (L : Nat → Int) (least : Int) (w : World) (D : Nat) (rec : Loop) (j : Nat) (V : World) : Prop where
  all : ∀ i, i < j → least ≤ L i
  loop : V.heap[D + 1]? = some (.loop rec)
  dfr : V.heap[D]? = some (.deferred (some []))
  lst : V.heap[w.heap.size + 1 + 1]? = some (.cells #[.int .i64 least] 3 (0, 0))
  r1 : V.heap[w.heap.size + 1 + 1 + 1]? = some (.cells #[.int .i64 0] 3 (0, 0))
  r2 : V.heap[w.heap.size + 1 + 1 + 1 + 1]? = some (.cells #[.int .i64 0] 35 (0, 0))
  low : Below w.heap.size w V
structure WkX (L : Nat → Int) (least day : Int) (w : World) (D : Nat) (rec : Loop) (j : Nat) (V : World) : Prop where
  all : ∀ i, i < j → least ≤ L i
  now : L j < least
  loop : V.heap[D + 1]? = some (.loop { rec with state := .done, pending := some .ret })
  dfr : V.heap[D]? = some (.deferred (some []))
  r1 : V.heap[w.heap.size + 1 + 1 + 1]? = some (.cells #[.int .i64 (day + j)] 3 (0, 0))
  r2 : V.heap[w.heap.size + 1 + 1 + 1 + 1]? = some (.cells #[.int .i64 0] 35 (0, 0))
  low : Below w.heap.size w V
theorem WkJ.kept {L : Nat → Int} {least : Int} {w : World} {D : Nat} {rec : Loop} {j : Nat} {V V' : World} {K : Nat} (hD : w.heap.size + 4 < D) (h : WkJ L least w D rec j V) (g : V.grownBy V' (some K)) (hK : D + 2 ≤ K) : WkJ L least w D rec j V' := by
  have k : ∀ (B : Nat) (o : Obj), V.heap[B]? = some o → B ≠ K → V'.heap[B]? = some o := fun B o ho hne => (g.block B (Array.getElem?_eq_some_iff.1 ho).1 (by simpa using hne)).trans ho
  exact ⟨h.all, k _ _ h.loop (by omega), k _ _ h.dfr (by omega), k _ _ h.lst (by omega), k _ _ h.r1 (by omega), k _ _ h.r2 (by omega), h.low.grown g h.low.size (fun k e => by cases e; omega)⟩
theorem WkJ.next {L : Nat → Int} {least : Int} {w : World} {D : Nat} {rec : Loop} {j : Nat} {V Wb W3 : World} (hD : w.heap.size + 4 < D) (h : WkJ L least w D rec j V) (hj : least ≤ L j) (h1 : V.grownBy Wb (some (D + 1))) (hl : Wb.heap[D + 1]? = some (.loop { rec with state := .busy })) (h2 : Wb.grownBy W3 none) :
    W3.heap[D + 1]? = some (.loop { rec with state := .busy }) ∧ WkJ L least w D rec (j + 1) (W3.putObj (D + 1) (.loop rec)) ∧ V.grownBy (W3.putObj (D + 1) (.loop rec)) (some D) := by
  have hall := grownBy_some (round_grown h.loop h1 h2) (some D)
  have hno := round_grown h.loop h1 h2
  have kb : ∀ (B : Nat) (o : Obj), V.heap[B]? = some o → (W3.putObj (D + 1) (.loop rec)).heap[B]? = some o := fun B o ho => (hno.block B (Array.getElem?_eq_some_iff.1 ho).1 (by simp)).trans ho
  exact ⟨(h2.block _ (Array.getElem?_eq_some_iff.1 hl).1 (by simp)).trans hl, ⟨all_succ (P := fun i => least ≤ L i) h.all hj, kb _ _ h.loop, kb _ _ h.dfr, kb _ _ h.lst, kb _ _ h.r1, kb _ _ h.r2, h.low.grown hno h.low.size (fun k e => by cases e)⟩, hall⟩
theorem WkJ.stop {L : Nat → Int} {least day d : Int} {w : World} {D : Nat} {rec : Loop} {j : Nat} {V Wb W3 : World} (hD : w.heap.size + 4 < D) (h : WkJ L least w D rec j V) (hj : L j < least) (hd : d = day + j) (h1 : V.grownBy Wb (some (D + 1))) (hl : Wb.heap[D + 1]? = some (.loop { rec with state := .busy })) (h2 : Wb.grownBy W3 none) :
    ((W3.setCell ⟨w.heap.size + 1 + 1 + 1, 0, none⟩ (.int .i64 d)).setCell ⟨w.heap.size + 1 + 1 + 1 + 1, 0, none⟩ (.int .i64 0)).heap[D + 1]? = some (.loop { rec with state := .busy }) ∧
    WkX L least day w D rec j (((W3.setCell ⟨w.heap.size + 1 + 1 + 1, 0, none⟩ (.int .i64 d)).setCell ⟨w.heap.size + 1 + 1 + 1 + 1, 0, none⟩ (.int .i64 0)).putObj (D + 1) (.loop { rec with state := .done, pending := some .ret })) := by
  have s1 := h1.size
  have s2 := h2.size
  have q1 : W3.heap[w.heap.size + 1 + 1 + 1]? = _ := (h2.block _ (by have := (Array.getElem?_eq_some_iff.1 h.r1).1; omega) (by simp)).trans ((h1.block _ (Array.getElem?_eq_some_iff.1 h.r1).1 (by simp; omega)).trans h.r1)
  have q2 : W3.heap[w.heap.size + 1 + 1 + 1 + 1]? = _ := (h2.block _ (by have := (Array.getElem?_eq_some_iff.1 h.r2).1; omega) (by simp)).trans ((h1.block _ (Array.getElem?_eq_some_iff.1 h.r2).1 (by simp; omega)).trans h.r2)
  have qd : W3.heap[D]? = _ := (h2.block _ (by have := (Array.getElem?_eq_some_iff.1 h.dfr).1; omega) (by simp)).trans ((h1.block _ (Array.getElem?_eq_some_iff.1 h.dfr).1 (by simp)).trans h.dfr)
  have ql := (h2.block _ (Array.getElem?_eq_some_iff.1 hl).1 (by simp)).trans hl
  have far : ∀ (W : World) (b k : Nat) (v : Value) (B : Nat), B ≠ b → (W.setCell ⟨b, k, none⟩ v).heap[B]? = W.heap[B]? := fun W b k v B h => Below.heap_setCell W ⟨b, k, none⟩ v B h
  have l4 : ((W3.setCell ⟨w.heap.size + 1 + 1 + 1, 0, none⟩ (.int .i64 d)).setCell ⟨w.heap.size + 1 + 1 + 1 + 1, 0, none⟩ (.int .i64 0)).heap[D + 1]? = some (.loop { rec with state := .busy }) := (far _ _ _ _ _ (by omega)).trans ((far _ _ _ _ _ (by omega)).trans ql)
  refine ⟨l4, h.all, hj, World.putObj_heap_same (Array.getElem?_eq_some_iff.1 l4).1, ?_, ?_, ?_, ?_⟩
  · exact (World.putObj_heap_other (by omega)).trans ((far _ _ _ _ _ (by omega)).trans ((far _ _ _ _ _ (by omega)).trans qd))
  · exact (World.putObj_heap_other (by omega)).trans ((far _ _ _ _ _ (by omega)).trans (by rw [← hd]; exact block_set 0 _ q1))
  · exact (World.putObj_heap_other (by omega)).trans (block_set 0 _ ((far _ _ _ _ _ (by omega)).trans q2))
  · have g1 : W3.grownBy _ (some (w.heap.size + 1 + 1 + 1)) := grownBy_set W3 (w.heap.size + 1 + 1 + 1) 0 (.int .i64 d)
    have low : Below w.heap.size w W3 := (h.low.grown h1 h.low.size (fun k e => by cases e; omega)).grown h2 (by have := h.low.size; omega) (fun k e => by cases e)
    have low2 := (low.setCell (p := ⟨w.heap.size + 1 + 1 + 1, 0, none⟩) (by simp <;> omega) (.int .i64 d)).setCell (p := ⟨w.heap.size + 1 + 1 + 1 + 1, 0, none⟩) (by simp <;> omega) (.int .i64 0)
    exact low2.grown (grownBy_putObj' _ _ _) low2.size (fun k e => by cases e; omega)
theorem grown_gw (W : World) (z : Grew) : W.grownBy (gw W z) none := grownBy_of_below (below_gw W z) none
theorem _root_.Go.Calls.grown_drew {P : Program} {f : FuncId} {args : Array Value} {w : World} {v : Value}
    (h : Calls P f args w.drew fun e w' => e = .returned v ∧ Below w.drew.heap.size w.drew w') :
    Calls P f args w.drew fun e w'' => e = .returned v ∧ ∃ x, w'' = gw w x :=
  h.mono fun _ _ ⟨he, hb⟩ => ⟨he, gw_of_below ((below_drew w).trans hb)⟩
theorem box_cell {W : World} {b : Nat} {v : Value} {t : TypeId} (h : W.heap[b]? = some (.cells #[v] t (0, 0))) : W.cell? ⟨b, 0, none⟩ = some v := cell_of_block h 0 (by simp)

set_option maxRecDepth 100000 in
set_option maxHeartbeats 1000000 in
theorem Weak_err (C : Clim) (x : Cont) (aS : Option Addr) (k cS : Nat) (F G : Nat → Int) (tu least : Int) (w : World) (hC : C.In w) (hf : C.Fits) (hk : k ≤ 9223372036854775807) (hS : SpansAt w aS k F G) {E : Int} (hE : weakErr C x k F G tu least = E) (h0 : E ≠ 0) :
    Calls Try.prog 35 #[.agg #[.int .i64 C.days, .slice C.aA C.nA C.cA, .slice C.aW C.nW C.cW], x.val, .slice aS k cS, .int .i64 tu, .int .i64 least] w fun e w' => e = .returned (.tuple #[.int .i64 0, .int .i64 E]) ∧ Below w.heap.size w w' := by
  unfold Cont.val
  obtain ⟨W1, hW1⟩ : ∃ W1, ((((w.alloc (.cells #[.int .i64 C.days, .slice C.aA C.nA C.cA, .slice C.aW C.nW C.cW] 24)).alloc (.cells #[.int .i64 x.day, .int .i64 x.alo, .int .i64 x.ahi, .int .i64 x.wlo, .int .i64 x.whi] 28)).alloc (.cells #[.int .i64 least] 3)).alloc (.cells #[.int .i64 0] 3)).alloc (.cells #[.int .i64 0] 35) = W1 := ⟨_, rfl⟩
  have hBc : Below w.heap.size w W1 := by rw [← hW1]; exact ((((below_alloc _ _).alloc (by simp) _).alloc (by simp <;> omega) _).alloc (by simp <;> omega) _).alloc (by simp <;> omega) _
  have zc0 : W1.heap[w.heap.size]? = some (.cells #[.int .i64 C.days, .slice C.aA C.nA C.cA, .slice C.aW C.nW C.cW] 24 (0, 0)) := by rw [← hW1]; exact alloc_keep (alloc_keep (alloc_keep (alloc_keep (alloc_at rfl))))
  have zc1 : W1.heap[w.heap.size + 1]? = some (.cells #[.int .i64 x.day, .int .i64 x.alo, .int .i64 x.ahi, .int .i64 x.wlo, .int .i64 x.whi] 28 (0, 0)) := by rw [← hW1]; exact alloc_keep (alloc_keep (alloc_keep (alloc_at (by simp))))
  have zc2 : W1.heap[w.heap.size + 1 + 1]? = some (.cells #[.int .i64 least] 3 (0, 0)) := by rw [← hW1]; exact alloc_keep (alloc_keep (alloc_at (by simp <;> omega)))
  have zc3 : W1.heap[w.heap.size + 1 + 1 + 1]? = some (.cells #[.int .i64 0] 3 (0, 0)) := by rw [← hW1]; exact alloc_keep (alloc_at (by simp <;> omega))
  have zc4 : W1.heap[w.heap.size + 1 + 1 + 1 + 1]? = some (.cells #[.int .i64 0] 35 (0, 0)) := by rw [← hW1]; exact alloc_at (by simp <;> omega)
  have c00 : W1.cell? ⟨w.heap.size, 0, none⟩ = some (.int .i64 C.days) := cell_of_block zc0 0 (by simp)
  have c01 : W1.cell? ⟨w.heap.size, 1, none⟩ = some (.slice C.aA C.nA C.cA) := cell_of_block zc0 1 (by simp)
  have c02 : W1.cell? ⟨w.heap.size, 2, none⟩ = some (.slice C.aW C.nW C.cW) := cell_of_block zc0 2 (by simp)
  have c10 : W1.cell? ⟨w.heap.size + 1, 0, none⟩ = some (.int .i64 x.day) := cell_of_block zc1 0 (by simp)
  have c11 : W1.cell? ⟨w.heap.size + 1, 1, none⟩ = some (.int .i64 x.alo) := cell_of_block zc1 1 (by simp)
  have c12 : W1.cell? ⟨w.heap.size + 1, 2, none⟩ = some (.int .i64 x.ahi) := cell_of_block zc1 2 (by simp)
  have c13 : W1.cell? ⟨w.heap.size + 1, 3, none⟩ = some (.int .i64 x.wlo) := cell_of_block zc1 3 (by simp)
  have c14 : W1.cell? ⟨w.heap.size + 1, 4, none⟩ = some (.int .i64 x.whi) := cell_of_block zc1 4 (by simp)
  have c20 : W1.cell? ⟨w.heap.size + 1 + 1, 0, none⟩ = some (.int .i64 least) := cell_of_block zc2 0 (by simp)
  have c30 : W1.cell? ⟨w.heap.size + 1 + 1 + 1, 0, none⟩ = some (.int .i64 0) := cell_of_block zc3 0 (by simp)
  have c40 : W1.cell? ⟨w.heap.size + 1 + 1 + 1 + 1, 0, none⟩ = some (.int .i64 0) := cell_of_block zc4 0 (by simp)
  have lc0 := (Array.getElem?_eq_some_iff.1 zc0).1
  have lc1 := (Array.getElem?_eq_some_iff.1 zc1).1
  have lc2 := (Array.getElem?_eq_some_iff.1 zc2).1
  have lc3 := (Array.getElem?_eq_some_iff.1 zc3).1
  have lc4 := (Array.getElem?_eq_some_iff.1 zc4).1
  have fc30 := frozen_of_block zc3 0
  have fc40 := frozen_of_block zc4 0
  have Zc0 := Lib.hid zc0
  have Zc1 := Lib.hid zc1
  have Zc2 := Lib.hid zc2
  have Zc3 := Lib.hid zc3
  have Zc4 := Lib.hid zc4
  clear zc0 zc1 zc2 zc3 zc4
  have HBc := Lib.hid hBc; clear hBc
  have HWc := Lib.hid hW1; clear hW1
  have ER := errorOf_any C x aS k cS F G tu W1 (hC.below HBc.out) hf hk (hS.below HBc.out)
  clear hC hS
  unfold weakErr at hE
  generalize errH C x k F G tu = E1 at *
  have ER' := Lib.hid ER; clear ER
  by_cases h1 : E1 = 1
  · rw [if_pos h1] at hE
    subst hE
    subst h1
    go_enter Try.func35, Try.ntmps35
    go_wp2_with fail
    rw [HWc.out]
    go_wp2_with fail
    refine (Calls.grown ER'.out).mono ?_
    rintro e w1 ⟨rfl, z, rfl⟩
    go_wp2_with fail
    refine bodyPost_ret (v := .tuple #[.int .i64 0, .int .i64 1]) (by simp [results, Try.results35, go_sem, *]) rfl ⟨rfl, ?_⟩
    exact ((HBc.out.gw z).setCell (by simp <;> omega) _).setCell (by simp <;> omega) _
  · rw [if_neg h1] at hE
    have h2 : (E1 != 1) = true := by simpa using h1
    cases h3 : inB least 0 10000 with
    | true =>
      rw [if_pos h3] at hE
      subst hE
      have H3 := Lib.hid h3; clear h3
      have h5 : (E1 != 0) = true := by simpa using h0
      go_enter Try.func35, Try.ntmps35
      go_wp2_with fail
      rw [HWc.out]
      go_wp2_with fail
      refine (Calls.grown ER'.out).mono ?_
      rintro e w1 ⟨rfl, z, rfl⟩
      go_wp2_with fail
      refine (within_b _ _ _ _ H3.out).mono ?_
      rintro e w1 ⟨rfl, rfl⟩
      go_wp2_with fail
      refine bodyPost_ret (v := .tuple #[.int .i64 0, .int .i64 E1]) (by simp [results, Try.results35, go_sem, *]) rfl ⟨rfl, ?_⟩
      exact ((HBc.out.gw z).setCell (by simp <;> omega) _).setCell (by simp <;> omega) _
    | false =>
      rw [if_neg (by rw [h3]; simp)] at hE
      subst hE
      have H3 := Lib.hid h3; clear h3
      go_enter Try.func35, Try.ntmps35
      go_wp2_with fail
      rw [HWc.out]
      go_wp2_with fail
      refine (Calls.grown ER'.out).mono ?_
      rintro e w1 ⟨rfl, z, rfl⟩
      go_wp2_with fail
      refine (within_b _ _ _ _ H3.out).mono ?_
      rintro e w1 ⟨rfl, rfl⟩
      go_wp2_with fail
      refine bodyPost_ret (v := .tuple #[.int .i64 0, .int .i64 2]) (by simp [results, Try.results35, go_sem, *]) rfl ⟨rfl, ?_⟩
      exact ((HBc.out.gw z).setCell (by simp <;> omega) _).setCell (by simp <;> omega) _

set_option maxRecDepth 100000 in
set_option maxHeartbeats 4000000 in
theorem Weak_in (n : Nat) (C : Clim) (x : Cont) (aS : Option Addr) (k cS : Nat) (F G : Nat → Int) (tu least : Int) (w : World) (hC : C.In w) (hf : C.Fits) (hk : k ≤ 9223372036854775807) (hS : SpansAt w aS k F G) (hE : weakErr C x k F G tu least = 0) (m : Nat) (hmd : x.day + m = tu) :
    CallsIn Fence.wide n Try.prog 35 #[.agg #[.int .i64 C.days, .slice C.aA C.nA C.cA, .slice C.aW C.nW C.cW], x.val, .slice aS k cS, .int .i64 tu, .int .i64 least] w fun e w' => e = .returned (.tuple #[.int .i64 (weakV C x k F G m least), .int .i64 (weakE C x k F G m least)]) ∧ Below w.heap.size w w' := by
  have hE2 : errH C x k F G tu = 0 ∧ inB least 0 10000 = true := by
    unfold weakErr at hE
    split at hE
    · omega
    · split at hE
      · rename_i h; exact ⟨hE, h⟩
      · omega
  obtain ⟨hE1, h3⟩ := hE2
  clear hE
  have hE := hE1
  have H3 := Lib.hid h3; clear h3
  obtain ⟨g1, g2, g3, g4, g5, g6⟩ := errH_zero hE
  rw [show x.val = .agg #[.int .i64 x.day, .int .i64 x.alo, .int .i64 x.ahi, .int .i64 x.wlo, .int .i64 x.whi] from rfl]
  have hmf : ∀ (fn : Fn) (first cap : Array Value) (w : World), (Instr.makeFunc fn first cap).run Try.prog w = .ok (.func fn first cap) w := fun _ _ _ _ => rfl
  obtain ⟨W1, hW1⟩ : ∃ W1, ((((w.alloc (.cells #[.int .i64 C.days, .slice C.aA C.nA C.cA, .slice C.aW C.nW C.cW] 24)).alloc (.cells #[.int .i64 x.day, .int .i64 x.alo, .int .i64 x.ahi, .int .i64 x.wlo, .int .i64 x.whi] 28)).alloc (.cells #[.int .i64 least] 3)).alloc (.cells #[.int .i64 0] 3)).alloc (.cells #[.int .i64 0] 35) = W1 := ⟨_, rfl⟩
  have hBc : Below w.heap.size w W1 := by rw [← hW1]; exact ((((below_alloc _ _).alloc (by simp) _).alloc (by simp <;> omega) _).alloc (by simp <;> omega) _).alloc (by simp <;> omega) _
  have zc0 : W1.heap[w.heap.size]? = some (.cells #[.int .i64 C.days, .slice C.aA C.nA C.cA, .slice C.aW C.nW C.cW] 24 (0, 0)) := by rw [← hW1]; exact alloc_keep (alloc_keep (alloc_keep (alloc_keep (alloc_at rfl))))
  have zc1 : W1.heap[w.heap.size + 1]? = some (.cells #[.int .i64 x.day, .int .i64 x.alo, .int .i64 x.ahi, .int .i64 x.wlo, .int .i64 x.whi] 28 (0, 0)) := by rw [← hW1]; exact alloc_keep (alloc_keep (alloc_keep (alloc_at (by simp))))
  have zc2 : W1.heap[w.heap.size + 1 + 1]? = some (.cells #[.int .i64 least] 3 (0, 0)) := by rw [← hW1]; exact alloc_keep (alloc_keep (alloc_at (by simp <;> omega)))
  have zc3 : W1.heap[w.heap.size + 1 + 1 + 1]? = some (.cells #[.int .i64 0] 3 (0, 0)) := by rw [← hW1]; exact alloc_keep (alloc_at (by simp <;> omega))
  have zc4 : W1.heap[w.heap.size + 1 + 1 + 1 + 1]? = some (.cells #[.int .i64 0] 35 (0, 0)) := by rw [← hW1]; exact alloc_at (by simp <;> omega)
  have c00 : W1.cell? ⟨w.heap.size, 0, none⟩ = some (.int .i64 C.days) := cell_of_block zc0 0 (by simp)
  have c01 : W1.cell? ⟨w.heap.size, 1, none⟩ = some (.slice C.aA C.nA C.cA) := cell_of_block zc0 1 (by simp)
  have c02 : W1.cell? ⟨w.heap.size, 2, none⟩ = some (.slice C.aW C.nW C.cW) := cell_of_block zc0 2 (by simp)
  have c10 : W1.cell? ⟨w.heap.size + 1, 0, none⟩ = some (.int .i64 x.day) := cell_of_block zc1 0 (by simp)
  have c11 : W1.cell? ⟨w.heap.size + 1, 1, none⟩ = some (.int .i64 x.alo) := cell_of_block zc1 1 (by simp)
  have c12 : W1.cell? ⟨w.heap.size + 1, 2, none⟩ = some (.int .i64 x.ahi) := cell_of_block zc1 2 (by simp)
  have c13 : W1.cell? ⟨w.heap.size + 1, 3, none⟩ = some (.int .i64 x.wlo) := cell_of_block zc1 3 (by simp)
  have c14 : W1.cell? ⟨w.heap.size + 1, 4, none⟩ = some (.int .i64 x.whi) := cell_of_block zc1 4 (by simp)
  have c20 : W1.cell? ⟨w.heap.size + 1 + 1, 0, none⟩ = some (.int .i64 least) := cell_of_block zc2 0 (by simp)
  have c30 : W1.cell? ⟨w.heap.size + 1 + 1 + 1, 0, none⟩ = some (.int .i64 0) := cell_of_block zc3 0 (by simp)
  have c40 : W1.cell? ⟨w.heap.size + 1 + 1 + 1 + 1, 0, none⟩ = some (.int .i64 0) := cell_of_block zc4 0 (by simp)
  have lc0 := (Array.getElem?_eq_some_iff.1 zc0).1
  have lc1 := (Array.getElem?_eq_some_iff.1 zc1).1
  have lc2 := (Array.getElem?_eq_some_iff.1 zc2).1
  have lc3 := (Array.getElem?_eq_some_iff.1 zc3).1
  have lc4 := (Array.getElem?_eq_some_iff.1 zc4).1
  have fc30 := frozen_of_block zc3 0
  have fc40 := frozen_of_block zc4 0
  have Zc0 := Lib.hid zc0
  have Zc1 := Lib.hid zc1
  have Zc2 := Lib.hid zc2
  have Zc3 := Lib.hid zc3
  have Zc4 := Lib.hid zc4
  clear zc0 zc1 zc2 zc3 zc4
  have HBc := Lib.hid hBc; clear hBc
  have HWc := Lib.hid hW1; clear hW1
  have HC := Lib.hid (hC.below HBc.out)
  have HS := Lib.hid (hS.below HBc.out)
  have HCW := Lib.hid hC; clear hC
  have HSW := Lib.hid hS; clear hS
  have ER := errorOf_any C x aS k cS F G tu W1 HC.out hf hk HS.out
  rw [hE] at ER
  clear hE hE1
  have ER' := Lib.hid ER; clear ER
  have FM := Lib.hid g6; clear g6
  have MD := Lib.hid hmd; clear hmd
  have DC := Lib.hid (dayC_ok g1 g3 g2); clear g4
  refine callsIn_of_wp_marks Try.func35 rfl trivial ?_ rfl
  simp only [Try.ntmps35, List.size_toArray, List.length_cons, List.length_nil, Nat.reduceAdd, Nat.reduceSub, Array.replicate_succ, Array.replicate_zero, List.push_toArray, List.append_toArray, List.nil_append, List.cons_append]
  gi_wp2_with fail
  rw [HWc.out]
  gi_wp2_with fail
  refine ⟨trivial, (fun h => (by cases h)), ?_⟩
  refine (callsIn_wide.2 (Calls.grown ER'.out)).mono ?_
  rintro e w1 ⟨rfl, z, rfl⟩
  gi_wp2_with fail
  refine ⟨trivial, (fun h => (by cases h)), ?_⟩
  refine (callsIn_wide.2 (within_b _ _ _ _ H3.out)).mono ?_
  rintro e w1 ⟨rfl, rfl⟩
  gi_wp2_with fail
  refine ⟨trivial, (fun h => (by cases h)), ?_⟩
  refine (callsIn_wide.2 (days_any C w.heap.size x aS k cS tu (gw W1 z) ⟨((below_gw W1 z).block _ lc0).trans Zc0.out, HC.out.below (below_gw W1 z)⟩ g1)).mono ?_
  rintro e W0 ⟨cur, B, bx, bto, ball, bfl, bcp, bs, rfl, hH, hfil, hb0, hfar⟩
  have BW := Lib.hid (thru hb0 (HBc.out.gw z))
  have K2 := Lib.hid ((hb0.block _ (by rw [gw_size]; omega)).trans (((below_gw W1 z).block _ lc2).trans Zc2.out))
  have K3 := Lib.hid ((hb0.block _ (by rw [gw_size]; omega)).trans (((below_gw W1 z).block _ lc3).trans Zc3.out))
  have K4 := Lib.hid ((hb0.block _ (by rw [gw_size]; omega)).trans (((below_gw W1 z).block _ lc4).trans Zc4.out))
  have SZ : w.heap.size + 5 ≤ W0.heap.size := by have := hb0.size; rw [gw_size] at this; omega
  have FAR := Lib.hid (show ∀ p ∈ daysHeld C cur w.heap.size B bx bto ball bfl bcp bs x tu aS k cS, p.1 < W0.heap.size from fun p hp => by
    exact hH.lt hp)
  have HH := Lib.hid hH; clear hH hfar
  have HFIL := Lib.hid hfil; clear hfil
  clear hb0 c00 c01 c02 c10 c11 c12 c13 c14 c20 c30 c40 fc30 fc40 lc0 lc1 lc2 lc3 lc4
  gi_wp2_with fail
  refine wpIn_rangeFunc_X (gf := 78) (lb := #[.pointer (some ⟨bx, 0, none⟩), .pointer (some ⟨bto, 0, none⟩), .pointer (some ⟨ball, 0, none⟩), .pointer (some ⟨bfl, 0, none⟩), .pointer (some ⟨bcp, 0, none⟩)]) rfl (enters_of Try.func78 (by kernel_rfl) rfl)
    (fun rec e W => (∃ v, e = .returned v) ∧ (WkJ (fun i => strLo (dayC C F G k x i)) least w W0.heap.size rec (m + 1) W ∨ ∃ j, j ≤ m ∧ WkX (fun i => strLo (dayC C F G k x i)) least x.day w W0.heap.size rec j W)) ?call ?ret ?out
  case out => rintro rec e W ⟨h, _⟩; exact h
  case call =>
    intro rec r1 r2 r3 r4 r5 r6
    obtain ⟨W2, hW2⟩ : ∃ W2, (W0.alloc (.deferred (some []))).alloc (.loop rec) = W2 := ⟨_, rfl⟩
    have hB2 : Below W0.heap.size W0 W2 := by rw [← hW2]; exact (below_alloc _ _).alloc (by simp) _
    have hl2 : W2.heap[W0.heap.size + 1]? = some (.loop rec) := by rw [← hW2]; exact alloc_at (by simp)
    have hd2 : W2.heap[W0.heap.size]? = some (.deferred (some [])) := by rw [← hW2]; exact alloc_keep (alloc_at rfl)
    have hs2 : W2.heap.size = W0.heap.size + 2 := by rw [← hW2]; simp
    rw [hW2]
    clear hW2
    obtain ⟨b, off, ea, lb, hc⟩ : ∃ b off, aS = some ⟨b, off, none⟩ ∧ b < w.heap.size ∧ ∀ i, i < k → w.cell? ⟨b, off + i * 2, none⟩ = some (.int .i64 (F i)) ∧ w.cell? ⟨b, off + i * 2 + 1, none⟩ = some (.int .i64 (G i)) := by
      rcases HSW.out with h | h
      · have := (staysB_t g3).1.1; omega
      · exact h
    subst ea
    refine days2_in (n - 1) (W0.heap.size + 1) C cur w.heap.size B bx bto ball bfl bcp bs b off cS k F G x tu w W2 W0.heap.size m g1 HCW.out lb hc g3 g2 g5 MD.out (fun h => FM.out (by have := MD.out; omega)) HFIL.out
      (fun j V => WkJ (fun i => strLo (dayC C F G k x i)) least w W0.heap.size rec j V) (fun j V => WkX (fun i => strLo (dayC C F G k x i)) least x.day w W0.heap.size rec j V) ?abide ?round (BW.out.trans (hB2.mono BW.out.size)) (HH.out.below hB2) (by omega) (by omega) (fun p hp => Nat.ne_of_lt (FAR.out p hp)) ?start
    case abide => exact fun j K V V' hK h g => h.kept (by omega) g (by omega)
    case start => exact ⟨fun i hi => by omega, hl2, hd2, (hB2.block _ (by omega)).trans K2.out, (hB2.block _ (by omega)).trans K3.out, (hB2.block _ (by omega)).trans K4.out, BW.out.trans (hB2.mono BW.out.size)⟩
    case round =>
      intro j V hJ hjm
      refine yieldAt_J hJ.loop r1 r3 r4 r5 r6 rfl ?_
      obtain ⟨oy, ey⟩ := DC.out j (by have := MD.out; omega)
      have SV := fun W => strength_any (dayC C F G k x j) W oy
      obtain ⟨y, hy⟩ : ∃ y, dayC C F G k x j = y := ⟨_, rfl⟩
      have HYY := Lib.hid hy
      have HJ := Lib.hid hJ
      rw [hy] at oy ey SV ⊢
      have HL2 := Lib.hid (And.intro hl2 (And.intro hd2 hs2))
      have EY := Lib.hid ey; clear ey
      clear hJ r3 r4 r5 r6 hy hc hl2 hd2 hs2 hB2 hmf
      unfold Cont.val at SV ⊢
      obtain ⟨A, hA⟩ : ∃ A, strLo y = A := ⟨_, rfl⟩
      rw [hA] at SV
      have HA := Lib.hid hA; clear hA
      have SV' := Lib.hid SV; clear SV
      gi_wp2_with fail
      refine ⟨alloc_keep HJ.out.loop, ?_⟩
      have hlp := (Array.getElem?_eq_some_iff.1 HJ.out.loop).1
      obtain ⟨Wb, hWb⟩ : ∃ Wb, (V.alloc (.cells #[.int .i64 y.day, .int .i64 y.alo, .int .i64 y.ahi, .int .i64 y.wlo, .int .i64 y.whi] 28)).putObj (W0.heap.size + 1) (.loop { rec with state := .busy }) = Wb := ⟨_, rfl⟩
      have hg1 : V.grownBy Wb (some (W0.heap.size + 1)) := by rw [← hWb]; exact grownBy_trans (World.grownBy_alloc V _ _) (grownBy_putObj' _ _ _)
      have hzb : Wb.heap.size = V.heap.size + 1 := by rw [← hWb]; simp [World.putObj]
      have hdb : Wb.heap[V.heap.size]? = some (.cells #[.int .i64 y.day, .int .i64 y.alo, .int .i64 y.ahi, .int .i64 y.wlo, .int .i64 y.whi] 28 (0, 0)) := by
        rw [← hWb]; exact (World.putObj_heap_other (by omega)).trans (alloc_at rfl)
      have hlb : Wb.heap[W0.heap.size + 1]? = some (.loop { rec with state := .busy }) := by
        rw [← hWb]; exact World.putObj_heap_same (by simp; omega)
      rw [hWb]
      clear hWb
      have same : ∀ (B : Nat) (o : Obj), V.heap[B]? = some o → B ≠ W0.heap.size + 1 → Wb.heap[B]? = some o := fun B o ho hB => (hg1.block B (Array.getElem?_eq_some_iff.1 ho).1 (by simpa using hB)).trans ho
      have hlst := same _ _ HJ.out.lst (by omega)
      have hr1 := same _ _ HJ.out.r1 (by omega)
      have hr2 := same _ _ HJ.out.r2 (by omega)
      clear same
      have d0 := cell_of_block hdb 0 (by simp)
      have d1 := cell_of_block hdb 1 (by simp)
      have d2 := cell_of_block hdb 2 (by simp)
      have d3 := cell_of_block hdb 3 (by simp)
      have d4 := cell_of_block hdb 4 (by simp)
      simp at d0 d1 d2 d3 d4
      have e0 := box_cell hlst
      have e1 := box_cell hr1
      have e2 := box_cell hr2
      have f1 := frozen_of_block hr1 0
      have f2 := frozen_of_block hr2 0
      have ldb := (Array.getElem?_eq_some_iff.1 hdb).1
      have lls := (Array.getElem?_eq_some_iff.1 hlst).1
      have lr1 := (Array.getElem?_eq_some_iff.1 hr1).1
      have lr2 := (Array.getElem?_eq_some_iff.1 hr2).1
      have HG1 := Lib.hid hg1; clear hg1
      have HLB := Lib.hid hlb; clear hlb
      have HZB := Lib.hid hzb; clear hzb hdb hlst
      have HR1 := Lib.hid hr1; clear hr1
      have HR2 := Lib.hid hr2; clear hr2
      have HHL := Lib.hid hlp; clear hlp
      have hfl : ∀ (a b : Int) (w : World), (Instr.field 26 (.agg #[.int .i64 a, .int .i64 b]) 0).run Try.prog w = .ok (.int .i64 a) w := fun _ _ _ => by kernel_rfl
      by_cases hlt : A < least
      · gi_wp2_with fail
        gi_region_with ((refine ⟨trivial, (fun h => (by cases h)), ?_⟩; refine (CallsIn.inRound _ (callsIn_wide.2 (Calls.grown_drew (SV'.out _)))).mono ?_; rintro e w9 ⟨rfl, z', rfl⟩))
        all_goals
          gi_wp2_with fail
          have ed : y.day = x.day + j := EY.out
          obtain ⟨hl3, hX⟩ := WkJ.stop (D := W0.heap.size) (by omega) HJ.out (show strLo (dayC C F G k x j) < least by rw [HYY.out, HA.out]; exact hlt) ed HG1.out HLB.out (grown_gw Wb z')
          exact ⟨_, _, run_endRound (some .ret) hl3, .inr ⟨rfl, hX⟩⟩
      · gi_wp2_with fail
        gi_region_with ((refine ⟨trivial, (fun h => (by cases h)), ?_⟩; refine (CallsIn.inRound _ (callsIn_wide.2 (Calls.grown_drew (SV'.out _)))).mono ?_; rintro e w9 ⟨rfl, z', rfl⟩))
        all_goals
          gi_wp2_with fail
          obtain ⟨hl3, hN, hg⟩ := WkJ.next (D := W0.heap.size) (by omega) HJ.out (show least ≤ strLo (dayC C F G k x j) by rw [HYY.out, HA.out]; omega) HG1.out HLB.out (grown_gw Wb z')
          refine ⟨_, _, run_endRound none hl3, .inl ⟨rfl, ?_, ?_⟩⟩
          · simp only [Option.isNone_none, if_true]
            rw [loop_again r1 r2]
            exact hN
          · simp only [Option.isNone_none, if_true]
            rw [loop_again r1 r2]
            exact hg
  case ret =>
    rintro rec v W r1 r2 ⟨-, hJ | ⟨j, hjm, hX⟩⟩
    · refine ⟨rec, hJ.loop, by rw [r1]; simp, ?_⟩
      rw [r2]
      obtain ⟨W5, hW5⟩ : ∃ W5, W.putObj (W0.heap.size + 1) (.loop { rec with state := .exhausted }) = W5 := ⟨_, rfl⟩
      have hg5 : W.grownBy W5 (some (W0.heap.size + 1)) := by rw [← hW5]; exact grownBy_putObj' _ _ _
      have same : ∀ (B : Nat) (o : Obj), W.heap[B]? = some o → B ≠ W0.heap.size + 1 → W5.heap[B]? = some o := fun B o ho hB => (hg5.block B (Array.getElem?_eq_some_iff.1 ho).1 (by simpa using hB)).trans ho
      simp only [← r2] at *
      rw [hW5]
      clear hW5
      have k1 := same _ _ hJ.r1 (by omega)
      have k2 := same _ _ hJ.r2 (by omega)
      have kd := same _ _ hJ.dfr (by omega)
      have low5 : Below w.heap.size w W5 := hJ.low.grown hg5 hJ.low.size (fun k e => by cases e; omega)
      have e1 := box_cell k1
      have e2 := box_cell k2
      have f1 := frozen_of_block k1 0
      have f2 := frozen_of_block k2 0
      have WN := Lib.hid (weak_none hJ.all)
      have K1' := Lib.hid k1
      have K2' := Lib.hid k2
      have KD := Lib.hid kd
      have LOW5 := Lib.hid low5
      clear same k1 k2 kd low5 hg5 hJ
      gi_wp2_with fail
      have far : ∀ (W : World) (b k : Nat) (v : Value) (B : Nat), B ≠ b → (W.setCell ⟨b, k, none⟩ v).heap[B]? = W.heap[B]? := fun W b k v B h => Below.heap_setCell W ⟨b, k, none⟩ v B h
      obtain ⟨W3, hW3⟩ : ∃ W3, (W5.setCell ⟨w.heap.size + 1 + 1 + 1, 0, none⟩ (.int .i64 0)).setCell ⟨w.heap.size + 1 + 1 + 1 + 1, 0, none⟩ (.int .i64 12) = W3 := ⟨_, rfl⟩
      have x1 : W3.heap[w.heap.size + 1 + 1 + 1]? = some (.cells #[.int .i64 0] 3 (0, 0)) := by rw [← hW3]; exact (far _ _ _ _ _ (by omega)).trans (block_set 0 _ K1'.out)
      have x2 : W3.heap[w.heap.size + 1 + 1 + 1 + 1]? = some (.cells #[.int .i64 12] 35 (0, 0)) := by rw [← hW3]; exact block_set 0 _ ((far _ _ _ _ _ (by omega)).trans K2'.out)
      have xd : W3.heap[W0.heap.size]? = some (.deferred (some [])) := by rw [← hW3]; exact (far _ _ _ _ _ (by omega)).trans ((far _ _ _ _ _ (by omega)).trans KD.out)
      have low3 : Below w.heap.size w W3 := by rw [← hW3]; exact (LOW5.out.setCell (p := ⟨w.heap.size + 1 + 1 + 1, 0, none⟩) (by simp <;> omega) _).setCell (p := ⟨w.heap.size + 1 + 1 + 1 + 1, 0, none⟩) (by simp <;> omega) _
      first | rw [hW3] | (rw [show (W5.setCell ⟨w.heap.size + 1 + 1 + 1, 0, none⟩ (.int .i64 0)) = W5 from setCell_self (box_cell K1'.out)] at hW3; rw [hW3])
      clear hW3
      unfold bodyPostM
      refine ⟨by simp, .inl ⟨W0.heap.size, _, rfl, run_takeDeferred xd, ?_⟩⟩
      have b0 := box_cell (show (W3.putObj W0.heap.size (.deferred none)).heap[w.heap.size + 1 + 1 + 1]? = _ from (World.putObj_heap_other (by omega)).trans x1)
      have b1 := box_cell (show (W3.putObj W0.heap.size (.deferred none)).heap[w.heap.size + 1 + 1 + 1 + 1]? = _ from (World.putObj_heap_other (by omega)).trans x2)
      refine ⟨.tuple #[.int .i64 0, .int .i64 12], by simp [results, Try.results35, go_sem, b0, b1], by rw [WN.out.1, WN.out.2], ?_⟩
      exact low3.grown (grownBy_putObj' _ _ _) low3.size (fun k e => by cases e; omega)
    · refine ⟨_, hX.loop, by simp, ?_⟩
      obtain ⟨W5, hW5⟩ : ∃ W5, W.putObj (W0.heap.size + 1) (.loop { rec with state := .exhausted, pending := some .ret }) = W5 := ⟨_, rfl⟩
      have hg5 : W.grownBy W5 (some (W0.heap.size + 1)) := by rw [← hW5]; exact grownBy_putObj' _ _ _
      have same : ∀ (B : Nat) (o : Obj), W.heap[B]? = some o → B ≠ W0.heap.size + 1 → W5.heap[B]? = some o := fun B o ho hB => (hg5.block B (Array.getElem?_eq_some_iff.1 ho).1 (by simpa using hB)).trans ho
      show Code.wpIn Fence.wide n _ Code.ret _ _ (W.putObj (W0.heap.size + 1) (.loop { rec with state := .exhausted, pending := some .ret }))
      rw [hW5]
      clear hW5
      have x1 := same _ _ hX.r1 (by omega)
      have x2 := same _ _ hX.r2 (by omega)
      have xd := same _ _ hX.dfr (by omega)
      have low5 : Below w.heap.size w W5 := hX.low.grown hg5 hX.low.size (fun k e => by cases e; omega)
      have WN := Lib.hid (weak_found hjm hX.all hX.now)
      clear hX same hg5
      gi_wp2_with fail
      unfold bodyPostM
      refine ⟨by simp, .inl ⟨W0.heap.size, _, rfl, run_takeDeferred xd, ?_⟩⟩
      have b0 := box_cell (show (W5.putObj W0.heap.size (.deferred none)).heap[w.heap.size + 1 + 1 + 1]? = _ from (World.putObj_heap_other (by omega)).trans x1)
      have b1 := box_cell (show (W5.putObj W0.heap.size (.deferred none)).heap[w.heap.size + 1 + 1 + 1 + 1]? = _ from (World.putObj_heap_other (by omega)).trans x2)
      refine ⟨.tuple #[.int .i64 (x.day + j), .int .i64 0], by simp [results, Try.results35, go_sem, b0, b1], by rw [WN.out.1, WN.out.2], ?_⟩
      exact low5.grown (grownBy_putObj' _ _ _) low5.size (fun k e => by cases e; omega)
theorem Weak_ok (C : Clim) (x : Cont) (aS : Option Addr) (k cS : Nat) (F G : Nat → Int) (tu least : Int) (w : World) (hC : C.In w) (hf : C.Fits) (hk : k ≤ 9223372036854775807) (hS : SpansAt w aS k F G) (hE : weakErr C x k F G tu least = 0) :
    Calls Try.prog 35 #[.agg #[.int .i64 C.days, .slice C.aA C.nA C.cA, .slice C.aW C.nW C.cW], x.val, .slice aS k cS, .int .i64 tu, .int .i64 least] w fun e w' => e = .returned (.tuple #[.int .i64 (weakV C x k F G (tu - x.day).toNat least), .int .i64 (weakE C x k F G (tu - x.day).toNat least)]) ∧ Below w.heap.size w w' := by
  have h0 : errH C x k F G tu = 0 := by
    unfold weakErr at hE
    split at hE
    · omega
    · split at hE
      · exact hE
      · omega
  exact callsIn_wide.1 (Weak_in 4 C x aS k cS F G tu least w hC hf hk hS hE _ (by have := (errH_zero h0).2.2.2.1; omega))
end Go.Proofs.Ytljofnmgddfljaa
