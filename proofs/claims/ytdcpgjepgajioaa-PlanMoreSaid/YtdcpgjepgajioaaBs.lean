/- Contract of the search. No conditions beyond each theorem's own. -/
import Derived.Test.YtdcpgjepgajioaaBr
import Derived.Test.YtdcpgjepgajioaaAc
import Derived.Great.BuildSlice
set_option linter.unusedVariables false
set_option linter.unusedSimpArgs false
set_option linter.unusedSectionVars false
set_option linter.constructorNameAsVariable false
namespace Go.Proofs.Ytdcpgjepgajioaa
open Go.RowKit Go.Shelf

attribute [local go_sem] gw_cell gw_frozen gw_size

/-- what the search finds -/
def findF (o : Otl) (y : Lyg) (wt : Nat → Int) : St := tryF o y wt y.nM (fun _ => firstC o.S o.nS) (fun _ => firstC o.S o.nS) 0 [] none
theorem try_any (w0 : World) (o : Otl) (y : Lyg) (fw : Nat) (lw : Array Value) (wt : Nat → Int) (q : Bx) (D : Nat) (efw : ∀ args w, (callFunc fw args).run Try.prog w = .ok (.enter fw args) w) (hq : q.Ok w0.heap.size D) (hO : o.In w0) (hY : y.In w0) (hB : outB o = true) (hLB : layB o y = true)
    (hW : ∀ W t, Below w0.heap.size w0 W → t < y.nM → Calls Try.prog fw (#[.int .i64 (t : Int)] ++ lw) W fun e w' => e = .returned (.int .i64 (wt t)) ∧ W = w') (hwt : ∀ t, t < y.nM → 0 ≤ wt t ∧ wt t ≤ 1073741824) : ∀ h, TryAt w0 o y fw lw wt q D h
  | 0 => fun low high gl gh cl ch cost now st r w T hn _ _ _ _ _ _ _ => by
    have OB := outB_t hB
    have hM : y.nM ≤ 10 := by have := (OB.2.2.2.2.2.2.2.2.2 0 (by have := OB.2.2.2.2.2.2.2.2.1; omega)).2.1; have := (layB_t hLB).2.1; omega
    exact try_zero w0 o y fw lw q D hq low high _ _ cost now st wt r w T hn hM
  | h + 1 => try_succ w0 o y fw lw wt q D efw hq hO hY hB hLB hW hwt h (try_any w0 o y fw lw wt q D efw hq hO hY hB hLB hW hwt h)
theorem run_build_cel (w : World) (c : List Int) (hl : c.length = 32) : (Instr.buildSlice 93 1 #[(0, cellV c)]).run Try.prog w = .ok (.slice (some ⟨w.heap.size, 0, none⟩) 1 1) (w.alloc (.cells (cV c).toArray 74)) := by
  obtain ⟨j0, jh, jy0, jy1, jy2⟩ := info_parts infoCel3
  have hz : (cellV c).cells.size = 32 := by simp [cellV, Value.cells, cV_len, hl]
  obtain ⟨r, h1, h2, h3⟩ := Go.Great.fill_dense (s := 32) (by omega) [cellV c] 0 ((Array.range (1 * 32)).map ((Value.agg #[.int .i64 0, .int .i64 0, .int .i64 0, .int .i64 0, .int .i64 0, .int .i64 0, .int .i64 0, .int .i64 0, .int .i64 0, .int .i64 0, .int .i64 0, .int .i64 0, .int .i64 0, .int .i64 0, .int .i64 0, .int .i64 0, .int .i64 0, .int .i64 0, .int .i64 0, .int .i64 0, .int .i64 0, .int .i64 0, .int .i64 0, .int .i64 0, .int .i64 0, .int .i64 0, .int .i64 0, .int .i64 0, .int .i64 0, .int .i64 0, .int .i64 0, .int .i64 0]).cells[· % (Value.agg #[.int .i64 0, .int .i64 0, .int .i64 0, .int .i64 0, .int .i64 0, .int .i64 0, .int .i64 0, .int .i64 0, .int .i64 0, .int .i64 0, .int .i64 0, .int .i64 0, .int .i64 0, .int .i64 0, .int .i64 0, .int .i64 0, .int .i64 0, .int .i64 0, .int .i64 0, .int .i64 0, .int .i64 0, .int .i64 0, .int .i64 0, .int .i64 0, .int .i64 0, .int .i64 0, .int .i64 0, .int .i64 0, .int .i64 0, .int .i64 0, .int .i64 0, .int .i64 0]).cells.size]!)) (by simp [hz]) (by simp)
  have hr : r = (cV c).toArray := by
    apply Array.ext_getElem?
    intro k
    rw [h3 k]
    by_cases hk : k < 32
    · rw [if_pos (by simp; omega)]
      have e1 : k / 32 - 0 = 0 := by omega
      have e2 : k % 32 = k := by omega
      rw [e1, e2]
      simp [cellV, Value.cells]
    · rw [if_neg (by simp; omega)]
      have l1 : (cV c).length = 32 := by rw [cV_len, hl]
      simp [l1, Nat.not_lt.1 hk, hk]
  subst hr
  exact run_buildSlice w 93 74 1 _ _ j0 (.agg #[.int .i64 0, .int .i64 0, .int .i64 0, .int .i64 0, .int .i64 0, .int .i64 0, .int .i64 0, .int .i64 0, .int .i64 0, .int .i64 0, .int .i64 0, .int .i64 0, .int .i64 0, .int .i64 0, .int .i64 0, .int .i64 0, .int .i64 0, .int .i64 0, .int .i64 0, .int .i64 0, .int .i64 0, .int .i64 0, .int .i64 0, .int .i64 0, .int .i64 0, .int .i64 0, .int .i64 0, .int .i64 0, .int .i64 0, .int .i64 0, .int .i64 0, .int .i64 0]) Try.underlying93 jh jy0 (by rw [jy1]; decide) (by rw [jy1]; decide) (by rw [jy1]; exact h1)
/-- a row of equal cellars -/
def CelRow (n : Nat) (c : List Int) (base : Nat) (v : Value) (w : World) : Prop := ∃ g, v = .slice (some ⟨g, 0, none⟩) n n ∧ CelsAt w g n (fun _ => c) ∧ base ≤ g
def CelIs (c : List Int) : Value → World → Prop := fun v _ => v = cellV c
theorem celrow_stable {n : Nat} {c : List Int} {base : Nat} {v : Value} : StableW (CelRow n c base v) := fun w w' hb ⟨g, h1, h2, h3⟩ => ⟨g, h1, h2.below hb, h3⟩
theorem call_wp {P : Program} {o : Oper} {a : Act} {w : World} {Q : Exit → Act → World → Prop} {Φ : Value → World → Prop} (f : FuncId) (args : Array Value) (hx : (execOp a.eval o).run P w = .ok (.enter f args) w)
    (H : Calls P f args w fun e w' => ∃ v, e = .returned v ∧ Below w.heap.size w w' ∧ Φ v w') : o.wp P a w (fun a' w' => ∃ v, a' = a.put o.dst v ∧ Below w.heap.size w w' ∧ Φ v w') Q := by
  unfold Oper.wp
  rw [hx, Oper.upon_enter]
  refine H.mono ?_
  rintro e w' ⟨v, rfl, hb, hp⟩
  exact ⟨v, rfl, hb, hp⟩
theorem build_wp {o : Oper} {a : Act} {w : World} {Q : Exit → Act → World → Prop} (x : Operand) (c : List Int) (base : Nat) (ho : o.op = .buildSlice 93 1 #[(0, x)]) (hx : a.eval x = cellV c) (hl : c.length = 32) (hb : base ≤ w.heap.size) :
    o.wp Try.prog a w (fun a' w' => ∃ v, a' = a.put o.dst v ∧ Below w.heap.size w w' ∧ CelRow 1 c base v w') Q := by
  have hrun := run_build_cel w c hl
  unfold Oper.wp
  simp [execOp, ho, hx, hrun, Result.andThen, Oper.upon]
  refine ⟨_, rfl, below_alloc _ _, _, rfl, fun i hi => ?_, hb⟩
  obtain rfl : i = 0 := by omega
  exact cel_of_block hl (alloc_at rfl)

set_option maxRecDepth 100000 in
set_option maxHeartbeats 16000000 in
theorem search_any (o : Otl) (y : Lyg) (fw : Nat) (lw : Array Value) (wt : Nat → Int) (w : World) (efw : ∀ args w, (callFunc fw args).run Try.prog w = .ok (.enter fw args) w) (hO : o.In w) (hY : y.In w) (hB : outB o = true) (hLB : layB o y = true)
    (hW : ∀ W t, Below w.heap.size w W → t < y.nM → Calls Try.prog fw (#[.int .i64 (t : Int)] ++ lw) W fun e w' => e = .returned (.int .i64 (wt t)) ∧ W = w') (hwt : ∀ t, t < y.nM → 0 ≤ wt t ∧ wt t ≤ 1073741824) :
    Calls Try.prog 42 #[o.val, y.val, .func (.func fw) #[] lw] w fun e w' => ∃ a c, e = .returned (.tuple #[.slice a (stL (findF o y wt)).length c, .int .i64 (stS (findF o y wt)), .bool (findF o y wt).isSome]) ∧ BestAt w.heap.size none w' a (stL (findF o y wt)) ∧ Below w.heap.size w w' := by
  have hmf : ∀ (fn : Fn) (first cap : Array Value) (w : World), (Instr.makeFunc fn first cap).run Try.prog w = .ok (.func fn first cap) w := fun _ _ _ _ => rfl
  have OB := outB_t hB
  have nS := OB.1
  have hP1 : 1 ≤ o.nP ∧ o.nP ≤ 8 := OB.2.2.2.2.2.2.2.2.1
  have HOB := Lib.hid OB; clear OB
  have PT := Lib.hid (fun W => parts_any o W)
  have HO := Lib.hid hO; have HY := Lib.hid hY; have HBB := Lib.hid hB; have HLB := Lib.hid hLB; have HW := Lib.hid hW; have HWT := Lib.hid hwt
  clear hO hY hB hLB hW hwt
  unfold Otl.val at PT
  unfold Otl.val Lyg.val
  obtain ⟨W1, hW1⟩ : ∃ W1, (((((w.alloc (.cells #[.slice o.aS o.nS o.cS, .int .i64 o.kl, .int .i64 o.kh, .slice o.aA o.nA o.cA, .slice o.aP o.nP o.cP] 27)).alloc (.cells #[.slice y.aR y.nR y.cR, .slice y.aM y.nM y.cM, .int .i64 y.lot, .int .i64 y.room] 29)).alloc (.cells #[.func (.func fw) #[] lw] 66)).alloc (.cells #[.slice none 0 0] 22)).alloc (.cells #[.int .i64 0] 3)).alloc (.cells #[.bool false] 4) = W1 := ⟨_, rfl⟩
  have hBc : Below w.heap.size w W1 := by rw [← hW1]; exact (((((below_alloc _ _).alloc (by simp) _).alloc (by simp <;> omega) _).alloc (by simp <;> omega) _).alloc (by simp <;> omega) _).alloc (by simp <;> omega) _
  have zc0 : W1.heap[w.heap.size]? = some (.cells #[.slice o.aS o.nS o.cS, .int .i64 o.kl, .int .i64 o.kh, .slice o.aA o.nA o.cA, .slice o.aP o.nP o.cP] 27 (0, 0)) := by rw [← hW1]; exact alloc_keep (alloc_keep (alloc_keep (alloc_keep (alloc_keep (alloc_at rfl)))))
  have zc1 : W1.heap[w.heap.size + 1]? = some (.cells #[.slice y.aR y.nR y.cR, .slice y.aM y.nM y.cM, .int .i64 y.lot, .int .i64 y.room] 29 (0, 0)) := by rw [← hW1]; exact alloc_keep (alloc_keep (alloc_keep (alloc_keep (alloc_at (by simp)))))
  have zc2 : W1.heap[w.heap.size + 1 + 1]? = some (.cells #[.func (.func fw) #[] lw] 66 (0, 0)) := by rw [← hW1]; exact alloc_keep (alloc_keep (alloc_keep (alloc_at (by simp <;> omega))))
  have zc3 : W1.heap[w.heap.size + 1 + 1 + 1]? = some (.cells #[.slice none 0 0] 22 (0, 0)) := by rw [← hW1]; exact alloc_keep (alloc_keep (alloc_at (by simp <;> omega)))
  have zc4 : W1.heap[w.heap.size + 1 + 1 + 1 + 1]? = some (.cells #[.int .i64 0] 3 (0, 0)) := by rw [← hW1]; exact alloc_keep (alloc_at (by simp <;> omega))
  have zc5 : W1.heap[w.heap.size + 1 + 1 + 1 + 1 + 1]? = some (.cells #[.bool false] 4 (0, 0)) := by rw [← hW1]; exact alloc_at (by simp <;> omega)
  have c00 : W1.cell? ⟨w.heap.size, 0, none⟩ = some (.slice o.aS o.nS o.cS) := cell_of_block zc0 0 (by simp)
  have c01 : W1.cell? ⟨w.heap.size, 1, none⟩ = some (.int .i64 o.kl) := cell_of_block zc0 1 (by simp)
  have c02 : W1.cell? ⟨w.heap.size, 2, none⟩ = some (.int .i64 o.kh) := cell_of_block zc0 2 (by simp)
  have c03 : W1.cell? ⟨w.heap.size, 3, none⟩ = some (.slice o.aA o.nA o.cA) := cell_of_block zc0 3 (by simp)
  have c04 : W1.cell? ⟨w.heap.size, 4, none⟩ = some (.slice o.aP o.nP o.cP) := cell_of_block zc0 4 (by simp)
  have c10 : W1.cell? ⟨w.heap.size + 1, 0, none⟩ = some (.slice y.aR y.nR y.cR) := cell_of_block zc1 0 (by simp)
  have c11 : W1.cell? ⟨w.heap.size + 1, 1, none⟩ = some (.slice y.aM y.nM y.cM) := cell_of_block zc1 1 (by simp)
  have c12 : W1.cell? ⟨w.heap.size + 1, 2, none⟩ = some (.int .i64 y.lot) := cell_of_block zc1 2 (by simp)
  have c13 : W1.cell? ⟨w.heap.size + 1, 3, none⟩ = some (.int .i64 y.room) := cell_of_block zc1 3 (by simp)
  have c20 : W1.cell? ⟨w.heap.size + 1 + 1, 0, none⟩ = some (.func (.func fw) #[] lw) := cell_of_block zc2 0 (by simp)
  have c30 : W1.cell? ⟨w.heap.size + 1 + 1 + 1, 0, none⟩ = some (.slice none 0 0) := cell_of_block zc3 0 (by simp)
  have c40 : W1.cell? ⟨w.heap.size + 1 + 1 + 1 + 1, 0, none⟩ = some (.int .i64 0) := cell_of_block zc4 0 (by simp)
  have c50 : W1.cell? ⟨w.heap.size + 1 + 1 + 1 + 1 + 1, 0, none⟩ = some (.bool false) := cell_of_block zc5 0 (by simp)
  have lc0 := (Array.getElem?_eq_some_iff.1 zc0).1
  have lc1 := (Array.getElem?_eq_some_iff.1 zc1).1
  have lc2 := (Array.getElem?_eq_some_iff.1 zc2).1
  have lc3 := (Array.getElem?_eq_some_iff.1 zc3).1
  have lc4 := (Array.getElem?_eq_some_iff.1 zc4).1
  have lc5 := (Array.getElem?_eq_some_iff.1 zc5).1
  have Zc0 := Lib.hid zc0
  have Zc1 := Lib.hid zc1
  have Zc2 := Lib.hid zc2
  have Zc3 := Lib.hid zc3
  have Zc4 := Lib.hid zc4
  have Zc5 := Lib.hid zc5
  clear zc0 zc1 zc2 zc3 zc4 zc5
  have HBc := Lib.hid hBc; clear hBc
  have HWc := Lib.hid hW1; clear hW1
  go_enter Try.func42, Try.ntmps42
  go_upto_region 1 with (fail)
  rw [HWc.out]
  go_wp2_with fail
  refine (PT.out W1).mono ?_
  rintro e W2 ⟨bo, rfl, hbo, zbo, hb2⟩
  have HB2 := Lib.hid hb2; have ZBO := Lib.hid zbo
  clear hb2 zbo
  go_upto_region 6 with (fail)
  obtain ⟨W3, hW3⟩ : ∃ W3, (((((W2).alloc (.cells #[.func (.func 53) #[] #[.pointer (some ⟨bo, 0, none⟩)]] 66)).alloc (.cells #[.func (.func 54) #[] #[.pointer (some ⟨bo, 0, none⟩)]] 66)).alloc (.cells #[.func (.func 60) #[] #[.pointer (some ⟨w.heap.size + 1, 0, none⟩)]] 72)).alloc (.cells #[.slice none 0 0] 22)).alloc (.cells #[.func (.func 61) #[] #[.pointer (some ⟨W2.heap.size + 1 + 1 + 1, 0, none⟩), .pointer (some ⟨w.heap.size + 1, 0, none⟩), .pointer (some ⟨w.heap.size + 1 + 1 + 1, 0, none⟩), .pointer (some ⟨w.heap.size + 1 + 1 + 1 + 1, 0, none⟩), .pointer (some ⟨w.heap.size + 1 + 1 + 1 + 1 + 1, 0, none⟩), .pointer (some ⟨w.heap.size + 1 + 1, 0, none⟩), .pointer (some ⟨w.heap.size, 0, none⟩), .pointer (some ⟨W2.heap.size + 1 + 1, 0, none⟩), .pointer (some ⟨W2.heap.size, 0, none⟩), .pointer (some ⟨W2.heap.size + 1, 0, none⟩), .pointer (some ⟨W2.heap.size + 1 + 1 + 1 + 1, 0, none⟩)]] 92) = W3 := ⟨_, rfl⟩
  have hBd : Below W2.heap.size W2 W3 := by rw [← hW3]; exact ((((below_alloc _ _).alloc (by simp) _).alloc (by simp <;> omega) _).alloc (by simp <;> omega) _).alloc (by simp <;> omega) _
  have zd0 : W3.heap[W2.heap.size]? = some (.cells #[.func (.func 53) #[] #[.pointer (some ⟨bo, 0, none⟩)]] 66 (0, 0)) := by rw [← hW3]; exact alloc_keep (alloc_keep (alloc_keep (alloc_keep (alloc_at rfl))))
  have zd1 : W3.heap[W2.heap.size + 1]? = some (.cells #[.func (.func 54) #[] #[.pointer (some ⟨bo, 0, none⟩)]] 66 (0, 0)) := by rw [← hW3]; exact alloc_keep (alloc_keep (alloc_keep (alloc_at (by simp))))
  have zd2 : W3.heap[W2.heap.size + 1 + 1]? = some (.cells #[.func (.func 60) #[] #[.pointer (some ⟨w.heap.size + 1, 0, none⟩)]] 72 (0, 0)) := by rw [← hW3]; exact alloc_keep (alloc_keep (alloc_at (by simp <;> omega)))
  have zd3 : W3.heap[W2.heap.size + 1 + 1 + 1]? = some (.cells #[.slice none 0 0] 22 (0, 0)) := by rw [← hW3]; exact alloc_keep (alloc_at (by simp <;> omega))
  have zd4 : W3.heap[W2.heap.size + 1 + 1 + 1 + 1]? = some (.cells #[.func (.func 61) #[] #[.pointer (some ⟨W2.heap.size + 1 + 1 + 1, 0, none⟩), .pointer (some ⟨w.heap.size + 1, 0, none⟩), .pointer (some ⟨w.heap.size + 1 + 1 + 1, 0, none⟩), .pointer (some ⟨w.heap.size + 1 + 1 + 1 + 1, 0, none⟩), .pointer (some ⟨w.heap.size + 1 + 1 + 1 + 1 + 1, 0, none⟩), .pointer (some ⟨w.heap.size + 1 + 1, 0, none⟩), .pointer (some ⟨w.heap.size, 0, none⟩), .pointer (some ⟨W2.heap.size + 1 + 1, 0, none⟩), .pointer (some ⟨W2.heap.size, 0, none⟩), .pointer (some ⟨W2.heap.size + 1, 0, none⟩), .pointer (some ⟨W2.heap.size + 1 + 1 + 1 + 1, 0, none⟩)]] 92 (0, 0)) := by rw [← hW3]; exact alloc_at (by simp <;> omega)
  have d00 : W3.cell? ⟨W2.heap.size, 0, none⟩ = some (.func (.func 53) #[] #[.pointer (some ⟨bo, 0, none⟩)]) := cell_of_block zd0 0 (by simp)
  have d10 : W3.cell? ⟨W2.heap.size + 1, 0, none⟩ = some (.func (.func 54) #[] #[.pointer (some ⟨bo, 0, none⟩)]) := cell_of_block zd1 0 (by simp)
  have d20 : W3.cell? ⟨W2.heap.size + 1 + 1, 0, none⟩ = some (.func (.func 60) #[] #[.pointer (some ⟨w.heap.size + 1, 0, none⟩)]) := cell_of_block zd2 0 (by simp)
  have d30 : W3.cell? ⟨W2.heap.size + 1 + 1 + 1, 0, none⟩ = some (.slice none 0 0) := cell_of_block zd3 0 (by simp)
  have d40 : W3.cell? ⟨W2.heap.size + 1 + 1 + 1 + 1, 0, none⟩ = some (.func (.func 61) #[] #[.pointer (some ⟨W2.heap.size + 1 + 1 + 1, 0, none⟩), .pointer (some ⟨w.heap.size + 1, 0, none⟩), .pointer (some ⟨w.heap.size + 1 + 1 + 1, 0, none⟩), .pointer (some ⟨w.heap.size + 1 + 1 + 1 + 1, 0, none⟩), .pointer (some ⟨w.heap.size + 1 + 1 + 1 + 1 + 1, 0, none⟩), .pointer (some ⟨w.heap.size + 1 + 1, 0, none⟩), .pointer (some ⟨w.heap.size, 0, none⟩), .pointer (some ⟨W2.heap.size + 1 + 1, 0, none⟩), .pointer (some ⟨W2.heap.size, 0, none⟩), .pointer (some ⟨W2.heap.size + 1, 0, none⟩), .pointer (some ⟨W2.heap.size + 1 + 1 + 1 + 1, 0, none⟩)]) := cell_of_block zd4 0 (by simp)
  have ld0 := (Array.getElem?_eq_some_iff.1 zd0).1
  have ld1 := (Array.getElem?_eq_some_iff.1 zd1).1
  have ld2 := (Array.getElem?_eq_some_iff.1 zd2).1
  have ld3 := (Array.getElem?_eq_some_iff.1 zd3).1
  have ld4 := (Array.getElem?_eq_some_iff.1 zd4).1
  have Zd0 := Lib.hid zd0
  have Zd1 := Lib.hid zd1
  have Zd2 := Lib.hid zd2
  have Zd3 := Lib.hid zd3
  have Zd4 := Lib.hid zd4
  clear zd0 zd1 zd2 zd3 zd4
  have HBd := Lib.hid hBd; clear hBd
  have HWd := Lib.hid hW3; clear hW3
  rw [HWd.out]
  have s1 := HBc.out.size
  have s2 := HB2.out.size
  have s3 := HBd.out.size
  have lb1 : w.heap.size + 1 + 1 + 1 + 1 + 1 + 1 ≤ W1.heap.size := by have := lc5; omega
  have lb3 : W2.heap.size + 1 + 1 + 1 + 1 + 1 ≤ W3.heap.size := by have := ld4; omega
  have lbo := (Array.getElem?_eq_some_iff.1 ZBO.out).1
  have k13 : ∀ {b : Nat} {x : Obj}, W1.heap[b]? = some x → W3.heap[b]? = some x := fun {b x} hx => by have h1 := (Array.getElem?_eq_some_iff.1 hx).1; exact (HBd.out.block b (by omega)).trans ((HB2.out.block b h1).trans hx)
  have ZBO3 := Lib.hid ((HBd.out.block bo lbo).trans ZBO.out)
  have LOW3 := Lib.hid (show Below w.heap.size w W3 from HBc.out.trans ((HB2.out.mono HBc.out.size).trans (HBd.out.mono (by omega))))
  obtain ⟨q, hq⟩ : ∃ q : Bx, q = ⟨W2.heap.size + 1 + 1 + 1, w.heap.size + 1, w.heap.size + 1 + 1 + 1, w.heap.size + 1 + 1 + 1 + 1, w.heap.size + 1 + 1 + 1 + 1 + 1, w.heap.size + 1 + 1, w.heap.size, W2.heap.size + 1 + 1, W2.heap.size, W2.heap.size + 1, W2.heap.size + 1 + 1 + 1 + 1, bo⟩ := ⟨_, rfl⟩
  have QO := Lib.hid (show q.Ok w.heap.size (W2.heap.size + 1 + 1 + 1 + 1 + 1) by subst hq; constructor <;> dsimp only <;> omega)
  have T3 := Lib.hid (show TS w o y fw lw q (W2.heap.size + 1 + 1 + 1 + 1 + 1) none [] none W3 by
    subst hq
    exact ⟨LOW3.out, ⟨none, 0, Zd3.out, RowN.nil _ _, rfl⟩, ⟨none, 0, k13 Zc3.out, .inl rfl, fun _ => ⟨rfl, rfl⟩⟩, k13 Zc4.out, k13 Zc5.out, k13 Zc1.out, k13 Zc0.out, ZBO3.out, k13 Zc2.out, Zd2.out, Zd0.out, Zd1.out, Zd4.out⟩)
  have HQ := Lib.hid hq; clear hq
  have zo3 := k13 Zc0.out
  have o0 := cell_of_block zo3 0 (by simp)
  have o1 := cell_of_block zo3 1 (by simp)
  have o2 := cell_of_block zo3 2 (by simp)
  have o3 := cell_of_block zo3 3 (by simp)
  have o4 := cell_of_block zo3 4 (by simp)
  have lo3 := (Array.getElem?_eq_some_iff.1 zo3).1
  clear zo3 c00 c01 c02 c03 c04 c10 c11 c12 c13 c20 c30 c40 c50 d00 d10 d20 d30 d40 k13
  obtain ⟨S0, hS0⟩ : ∃ S0, firstC o.S o.nS = S0 := ⟨_, rfl⟩
  have lS0 : S0.length = 32 := by rw [← hS0]; exact firstC_len _ _
  have FA := Lib.hid (fun V (hV : Below w.heap.size w V) => first_any o V (HO.out.below hV) nS)
  rw [hS0] at FA
  unfold Otl.val at FA
  have HS0 := Lib.hid hS0; clear hS0
  refine wp_region_loose [true, false, false, true, true, true, false, false] [⟨1, 23, CelIs S0⟩, ⟨2, 24, CelRow 1 S0 W3.heap.size⟩, ⟨6, 28, CelRow o.nP S0 W3.heap.size⟩, ⟨7, 14, CelRow o.nP S0 W3.heap.size⟩] (by kernel_rfl) rfl (by kernel_rfl) (by kernel_rfl) ?_ ?_
  · intro b hb v
    simp only [List.mem_cons, List.not_mem_nil, or_false] at hb
    rcases hb with rfl | rfl | rfl | rfl
    · exact fun _ _ _ h => h
    all_goals exact celrow_stable
  apply Exists.intro
  refine ⟨fun S hS hx => ?_, ?_, ?_⟩
  · obtain ⟨x0, hx0⟩ := hx
    haveI : Nonempty (GrewS W3 S) := ⟨⟨x0, hx0⟩⟩
    simp only [pickM]
    repeat (go_big_quiet_step (fail))
    exact wpQuiet_nil rfl
  · intro b hb
    simp only [List.mem_cons, List.not_mem_nil, or_false] at hb
    rcases hb with rfl | rfl | rfl | rfl <;> (intro op ho a wx hbw e1 e2; injection (show some _ = some op from ho) with ho; subst ho; refine .inl ?_)
    · have h1 := e1 22 (List.contains_iff_mem.1 (by kernel_rfl)) (by simp)
      simp at h1
      have v1 : a.eval (.tmp 22) = .agg #[.slice o.aS o.nS o.cS, .int .i64 o.kl, .int .i64 o.kh, .slice o.aA o.nA o.cA, .slice o.aP o.nP o.cP] := eval_of h1
      have en := enters_of Try.func56 (by kernel_rfl) rfl #[.agg #[.slice o.aS o.nS o.cS, .int .i64 o.kl, .int .i64 o.kh, .slice o.aA o.nA o.cA, .slice o.aP o.nP o.cP]] wx
      refine call_wp 56 #[.agg #[.slice o.aS o.nS o.cS, .int .i64 o.kl, .int .i64 o.kh, .slice o.aA o.nA o.cA, .slice o.aP o.nP o.cP]] ?_ ?_
      · simp [execOp, go_sem, v1, resolve, invoke, en, Result.andThen, h1]
      · exact (FA.out wx (thru hbw LOW3.out)).mono (fun e w' ⟨he, hb⟩ => ⟨_, he, hb, rfl⟩)
    · obtain ⟨v0, h1, h2⟩ := e2 ⟨1, 23, CelIs S0⟩ (by simp) (List.contains_iff_mem.1 (by kernel_rfl))
      have h2 : v0 = cellV S0 := h2
      dsimp only at h1
      subst h2
      exact build_wp (.tmp 23) S0 _ rfl (eval_of h1) lS0 hbw.size
    · obtain ⟨v0, h1, g, rfl, h3, h4⟩ := e2 ⟨2, 24, CelRow 1 S0 W3.heap.size⟩ (by simp) (List.contains_iff_mem.1 (by kernel_rfl))
      dsimp only at h1
      have h5 := e1 27 (List.contains_iff_mem.1 (by kernel_rfl)) (by simp)
      simp at h5
      have v1 : a.eval (.tmp 24) = .slice (some ⟨g, 0, none⟩) 1 1 := eval_of h1
      have v2 : a.eval (.tmp 27) = .int .i64 (o.nP : Int) := eval_of h5
      have en := enters_of Try.func63 (by kernel_rfl) rfl #[.slice (some ⟨g, 0, none⟩) 1 1, .int .i64 (o.nP : Int)] wx
      refine call_wp 63 #[.slice (some ⟨g, 0, none⟩) 1 1, .int .i64 (o.nP : Int)] ?_ ?_
      · simp [execOp, go_sem, v1, v2, resolve, invoke, en, Result.andThen, h1, h5]
      · exact (repeat_any g o.nP 1 S0 wx h3 hP1.1 hP1.2).mono (fun e w' ⟨g', he, hc, hg, _, hb⟩ => ⟨_, he, hb, g', rfl, hc, by have := hbw.size; omega⟩)
    · obtain ⟨v0, h1, h2⟩ := e2 ⟨6, 28, CelRow o.nP S0 W3.heap.size⟩ (by simp) (List.contains_iff_mem.1 (by kernel_rfl))
      exact move_wp (.tmp 28) rfl v0 (eval_of h1) h2
  · intro β wx hbx hΦ
    have q1 := hΦ ⟨7, 14, CelRow o.nP S0 W3.heap.size⟩ (by simp)
    simp only [loosePut, List.foldl_cons, List.foldl_nil]
    clear hΦ
    dsimp only at q1
    obtain ⟨g, ev, CG, hg⟩ := q1
    simp only [ev, Act.put, List.setIfInBounds_toArray, List.set_cons_succ, List.set_cons_zero]
    clear ev
    generalize β 23 = y23
    generalize β 24 = y24
    generalize β 28 = y28
    have TX := Lib.hid (T3.out.below hbx)
    have RK : RowOk 0 S0 := by rw [← HS0.out]; obtain ⟨a, b⟩ := first_ok HOB.out.2.1; exact ⟨a, by omega⟩
    have TR := try_any w o y fw lw wt q (W2.heap.size + 1 + 1 + 1 + 1 + 1) efw QO.out HO.out HY.out HBB.out HLB.out HW.out HWT.out y.nM
    unfold TryAt at TR
    replace TR := TR (fun _ => S0) (fun _ => S0) g g o.nP o.nP 0 [] none none wx TX.out (by simp) CG CG ⟨by omega, by simp⟩ ⟨by omega, by simp⟩ (fun _ _ => ⟨RK, RK⟩) (Int.le_refl 0) (by simp)
    rw [show tryF o y wt y.nM (fun _ => S0) (fun _ => S0) 0 [] none = findF o y wt by rw [← HS0.out]; rfl] at TR
    have xt := TX.out.xt
    rw [HQ.out] at TR xt
    dsimp only at TR xt
    have et := cell_of_block xt 0 (by simp)
    have lt := (Array.getElem?_eq_some_iff.1 xt).1
    have TR2 := Lib.hid TR
    clear xt TR RK
    clear o0 o1 o2 o3 o4
    go_wp2_with fail
    refine TR2.out.mono ?_
    rintro e w5 ⟨⟨x5, rfl⟩, r5, t5, -⟩
    obtain ⟨h1, -, ⟨aB, cB, b1, b2, b3⟩, b4, b5, -, -, -, -, -, -, -, -⟩ := t5
    dsimp only at b1 b4 b5
    have LOW5 := Lib.hid h1; have BA := Lib.hid b2
    have e1 := cell_of_block b1 0 (by simp)
    have e2 := cell_of_block b4 0 (by simp)
    have e3 := cell_of_block b5 0 (by simp)
    have f1 := frozen_of_block b1 0
    have f2 := frozen_of_block b4 0
    have f3 := frozen_of_block b5 0
    have m1 := (Array.getElem?_eq_some_iff.1 b1).1
    have m2 := (Array.getElem?_eq_some_iff.1 b4).1
    have m3 := (Array.getElem?_eq_some_iff.1 b5).1
    clear h1 b1 b2 b3 b4 b5 et lt TR2
    go_wp2_with fail
    go_region
    go_wp2_with fail
    have z5 := LOW5.out.size
    have G1 := grownBy_set w5 (w.heap.size + 1 + 1 + 1) 0 (.slice aB (stL (findF o y wt)).length cB)
    have G2 := grownBy_set (w5.setCell ⟨w.heap.size + 1 + 1 + 1, 0, none⟩ (.slice aB (stL (findF o y wt)).length cB)) (w.heap.size + 1 + 1 + 1 + 1) 0 (.int .i64 (stS (findF o y wt)))
    have G3 := grownBy_set ((w5.setCell ⟨w.heap.size + 1 + 1 + 1, 0, none⟩ (.slice aB (stL (findF o y wt)).length cB)).setCell ⟨w.heap.size + 1 + 1 + 1 + 1, 0, none⟩ (.int .i64 (stS (findF o y wt)))) (w.heap.size + 1 + 1 + 1 + 1 + 1) 0 (.bool (findF o y wt).isSome)
    have B3 := ((BA.out.grown G1 (by omega)).grown G2 (by omega)).grown G3 (by omega)
    have L3 := (((LOW5.out.grown G1 LOW5.out.size (fun b e => by cases e; omega)).grown G2 (Nat.le_trans LOW5.out.size G1.size) (fun b e => by cases e; omega)).grown G3 (Nat.le_trans LOW5.out.size (Nat.le_trans G1.size G2.size)) (fun b e => by cases e; omega)).drew
    have B4 := Lib.hid B3; have L4 := Lib.hid L3
    clear B3 L3 G1 G2 G3
    refine bodyPost_ret (v := .tuple #[.slice aB (stL (findF o y wt)).length cB, .int .i64 (stS (findF o y wt)), .bool (findF o y wt).isSome]) (by simp [results, Try.results42, go_sem, *]) rfl ⟨aB, cB, rfl, ?_, L4.out⟩
    rcases B4.out with h | ⟨b, h1, h2, h3, h4, h5⟩
    · exact .inl h
    · exact .inr ⟨b, h1, by omega, h3, fun e => (by cases e), h5⟩
end Go.Proofs.Ytdcpgjepgajioaa
