/- Cellars in memory: reading and writing them; contracts of total and sell. No conditions beyond each theorem's own. -/
import Derived.Test.YtdcpgjepgajioaaBd
import Derived.Laws.IdiomCopy
import Derived.Laws.Rows
set_option linter.unusedVariables false
set_option linter.unusedSimpArgs false
set_option linter.unusedSectionVars false
set_option linter.constructorNameAsVariable false
namespace Go.Proofs.Ytdcpgjepgajioaa
open Go.RowKit

attribute [local go_sem] gw_cell gw_frozen gw_size

def cV (c : List Int) : List Value := c.map (Value.int .i64)
def cellV (c : List Int) : Value := .agg (cV c).toArray
theorem cV_len (c : List Int) : (cV c).length = c.length := by simp [cV]
theorem cV_one (c : List Int) : ∀ v ∈ cV c, v.oneCell' = true := fun v hv => by
  simp only [cV, List.mem_map] at hv
  obtain ⟨x, _, rfl⟩ := hv
  rfl
theorem cV_get {c : List Int} {j : Nat} {v : Value} (h : (cV c)[j]? = some v) : j < c.length ∧ v = .int .i64 (c.getD j 0) := by
  have hj : j < c.length := by
    have := (List.getElem?_eq_some_iff.1 h).1
    rwa [cV_len] at this
  refine ⟨hj, ?_⟩
  simp only [cV, List.getElem?_map, List.getElem?_eq_getElem hj, Option.map_some, Option.some.injEq] at h
  rw [← h, List.getD_eq_getElem?_getD, List.getElem?_eq_getElem hj]
  rfl
theorem cV_at {c : List Int} {j : Nat} (h : j < (cV c).length) : (cV c)[j] = .int .i64 (c.getD j 0) := (cV_get (List.getElem?_eq_getElem h)).2
/-- a cellar at a place of a block -/
structure CelAt (w : World) (b o : Nat) (c : List Int) : Prop where
  len : c.length = 32
  cell : ∀ j, j < 32 → w.cell? ⟨b, o + j, none⟩ = some (.int .i64 (c.getD j 0))
  free : ∀ k, w.frozen? ⟨b, k, none⟩ = false
/-- w' is w but for the cellar at a place, and for new blocks -/
structure Rw (w w' : World) (b o : Nat) : Prop where
  g : w.grownBy w' (some b)
  out : ∀ k, (k < o ∨ o + 32 ≤ k) → w'.cell? ⟨b, k, none⟩ = w.cell? ⟨b, k, none⟩
  free : ∀ k, w'.frozen? ⟨b, k, none⟩ = w.frozen? ⟨b, k, none⟩
theorem CelAt.lt {w : World} {b o : Nat} {c : List Int} (h : CelAt w b o c) : b < w.heap.size := by simpa using World.block_lt_of_cell? w _ (h.cell 0 (by omega))
theorem CelAt.below {w w' : World} {b o : Nat} {c : List Int} (h : CelAt w b o c) (hb : Below w.heap.size w w') : CelAt w' b o c :=
  ⟨h.len, fun j hj => (hb.cell (p := ⟨b, o + j, none⟩) h.lt).trans (h.cell j hj), fun k => (hb.frozen (p := ⟨b, k, none⟩) h.lt).trans (h.free k)⟩
theorem Rw.of_below {w w' : World} {b o : Nat} (hb : Below w.heap.size w w') (hlt : b < w.heap.size) : Rw w w' b o :=
  ⟨grownBy_of_below hb _, fun k _ => hb.cell (p := ⟨b, k, none⟩) hlt, fun k => hb.frozen (p := ⟨b, k, none⟩) hlt⟩
theorem Rw.trans {w w1 w2 : World} {b o : Nat} (h : Rw w w1 b o) (k : Rw w1 w2 b o) : Rw w w2 b o :=
  ⟨grownBy_trans h.g k.g, fun j hj => (k.out j hj).trans (h.out j hj), fun j => (k.free j).trans (h.free j)⟩
theorem Rw.set (w : World) (b o j : Nat) (v : Value) (hj : j < 32) : Rw w (w.setCell ⟨b, o + j, none⟩ v) b o :=
  ⟨grownBy_set _ _ _ _, fun k hk => World.cell?_setCell_other _ _ _ _ (by simp <;> omega), fun k => World.frozen?_setCell _ _ _ _⟩
theorem CelAt.set {w : World} {b o : Nat} {c : List Int} (h : CelAt w b o c) (j : Nat) (x : Int) (hj : j < 32) : CelAt (w.setCell ⟨b, o + j, none⟩ (.int .i64 x)) b o (c.set j x) := by
  refine ⟨by simpa using h.len, fun i hi => ?_, fun k => (World.frozen?_setCell _ _ _ _).trans (h.free k)⟩
  by_cases e : i = j
  · subst e
    rw [World.cell?_setCell_same' _ _ _ (by rw [h.cell i hi]; rfl)]
    rw [List.getD_eq_getElem?_getD, List.getElem?_set_self (by rw [h.len]; omega)]
    rfl
  · rw [World.cell?_setCell_other _ _ _ _ (by simp <;> omega), h.cell i hi]
    rw [List.getD_eq_getElem?_getD, List.getD_eq_getElem?_getD, List.getElem?_set_ne (by omega)]
theorem CelAt.other {w w' : World} {b o b2 o2 : Nat} {c : List Int} (h : CelAt w b o c) (hr : Rw w w' b2 o2) (hd : b ≠ b2 ∨ o + 32 ≤ o2 ∨ o2 + 32 ≤ o) : CelAt w' b o c := by
  by_cases e : b = b2
  · subst e
    exact ⟨h.len, fun j hj => (hr.out (o + j) (by omega)).trans (h.cell j hj), fun k => (hr.free k).trans (h.free k)⟩
  · have hbk := hr.g.block b h.lt (fun h => e (by cases h; rfl))
    exact ⟨h.len, fun j hj => (World.cell?_of_block (a := ⟨b, o + j, none⟩) hbk).trans (h.cell j hj), fun k => (World.frozen?_of_block (a := ⟨b, k, none⟩) hbk).trans (h.free k)⟩
theorem grownBy_setCells (b : Nat) : ∀ (vs : List Value) (o : Nat) (w : World), w.grownBy (w.setCells b o vs) (some b)
  | [], _, w => grownBy_of_below (Below.refl _ w) _
  | v :: r, o, w => grownBy_trans (grownBy_set w b o v) (grownBy_setCells b r (o + 1) _)
theorem CelAt.put {w : World} {b o : Nat} {c c' : List Int} (h : CelAt w b o c) (hl : c'.length = 32) : CelAt (w.setCells b o (cV c')) b o c' ∧ Rw w (w.setCells b o (cV c')) b o := by
  refine ⟨⟨hl, fun j hj => ?_, fun k => (World.frozen?_setCells b _ o w _).trans (h.free k)⟩, ⟨grownBy_setCells b _ o w, fun k hk => World.cell?_setCells_out b _ o w _ (fun _ _ => by rw [cV_len, hl]; exact hk), fun k => World.frozen?_setCells b _ o w _⟩⟩
  have hj' : j < (cV c').length := by rw [cV_len]; omega
  rw [World.cell?_setCells_in b (cV c') o w (fun i hi => by rw [cV_len] at hi; rw [h.cell i (by omega)]; rfl) j hj', cV_at hj']

theorem infoCel : (Try.prog.info? 74).map (·.size) = some 32 := by kernel_rfl
theorem run_loadVar_cel {w : World} {b o : Nat} {c : List Int} (h : CelAt w b o c) : (loadVar 74 ⟨b, o, none⟩).run Try.prog w = .ok (cellV c) w := by
  have hl : (loadCells ⟨b, o, none⟩ (cV c).length).run Try.prog w = .ok (cV c).toArray w :=
    run_loadCells_list (P := Try.prog) w ⟨b, o, none⟩ (cV c) (fun j v hv => by
      obtain ⟨hj, rfl⟩ := cV_get hv
      have hadd : (⟨b, o, none⟩ : Addr).add j = ⟨b, o + j, none⟩ := by unfold Addr.add; split <;> simp_all
      rw [hadd]
      exact h.cell j (by have := h.len; omega))
  rw [cV_len, h.len] at hl
  have hi := infoCel
  cases hq : Try.prog.info? 74 with
  | none => simp [hq] at hi
  | some i =>
    have hs : i.size = 32 := by simpa [hq] using hi
    have hagg : (isAgg 74).run Try.prog w = .ok true w := by
      unfold isAgg
      rw [Sem.run_bind, run_underlying Try.underlying74 w]
      rfl
    simp [loadVar, Sem.run_bind, hagg, sizeOf, typeInfo, hq, hs, hl, cellV]
theorem run_storeVar_cel {w : World} {b o : Nat} {c c' : List Int} (h : CelAt w b o c) (hl : c'.length = 32) : (storeVar 74 ⟨b, o, none⟩ (cellV c')).run Try.prog w = .ok () (w.setCells b o (cV c')) := by
  have hst := run_storeCells_cells (P := Try.prog) b o (cV c') 0 w (fun j hj => by rw [cV_len] at hj; rw [Nat.add_zero, h.cell j (by omega)]; rfl) (fun j _ => by rw [Nat.add_zero]; exact h.free _) (cV_one c')
  have hi := infoCel
  cases hq : Try.prog.info? 74 with
  | none => simp [hq] at hi
  | some i =>
    have hs : i.size = 32 := by simpa [hq] using hi
    have e : (cellV c').cells.size = 32 := by simp [cellV, Value.cells, cV_len, hl]
    have e2 : (cellV c').cells.toList = cV c' := by simp [cellV, Value.cells]
    simp [storeVar, sizeOf, typeInfo, hq, hs, e, e2]
    simpa using hst
section
variable {ops : Array Oper} {rest : List Oper} {o : Oper} {a : Act} {w : World} {Q : Exit → Act → World → Prop}
theorem wpList_load_cel (hgd : o.guard = none) (x : Operand) (ho : o.op = .load 74 x) (g off : Nat) (hx : a.eval x = .pointer (some ⟨g, off, none⟩)) {c : List Int} (h : CelAt w g off c)
    (hk : wpList Try.prog ops Q rest (a.put o.dst (cellV c)) w) : wpList Try.prog ops Q (o :: rest) a w :=
  wpList_plain hgd fun _ hK => by
    unfold Oper.wp execOp
    simp only [ho, hx, Instr.loadAt, Instr.sureAddr, Sem.run_bind, Sem.run_pure, Result.andThen_ok, run_loadVar_cel h]
    exact hK _ _ hk
theorem wpList_store_cel (hgd : o.guard = none) (x y : Operand) (ho : o.op = .store 74 x y) (g off : Nat) {c c' : List Int} (hx : a.eval x = .pointer (some ⟨g, off, none⟩)) (hy : a.eval y = cellV c') (h : CelAt w g off c) (hl : c'.length = 32)
    (hk : wpList Try.prog ops Q rest (a.put o.dst undef) (w.setCells g off (cV c'))) : wpList Try.prog ops Q (o :: rest) a w :=
  wpList_plain hgd fun _ hK => by
    unfold Oper.wp execOp
    simp only [ho, hx, hy, Instr.storeAt, Instr.sureAddr, Sem.run_bind, Sem.run_pure, Result.andThen_ok, run_storeVar_cel h hl]
    exact hK _ _ hk
end
theorem run_index_cel {c : List Int} (hl : c.length = 32) (k : Nat) (hk : k < 32) (w : World) : (Instr.index 74 (cellV c) (.int .i64 k)).run Try.prog w = .ok (.int .i64 (c.getD k 0)) w := by
  have hu : Try.prog.underlying 74 = some (.array 32 3) := by kernel_rfl
  have hk2 : (k : Int) < 32 := by omega
  have hi : Try.prog.info? 3 = Try.prog.info? 3 := rfl
  have hj : k < c.length := by omega
  have hz : ∀ w, (sizeOf 3).run Try.prog w = .ok 1 w := fun _ => by kernel_rfl
  have ha : ∀ w, (isAgg 3).run Try.prog w = .ok false w := fun _ => by kernel_rfl
  simp [Instr.index, run_underlying hu, asIntOf, cellV, hk2, hk, go_sem, cV, hj, List.getD, List.getElem?_eq_getElem]
end Go.Proofs.Ytdcpgjepgajioaa
