/- Contract of Play. No conditions beyond each theorem's own. -/
import Derived.Test.YtfefmgadfklgmaaHe
import Derived.Defers
import Derived.Recover
set_option linter.unusedVariables false
set_option linter.unusedSimpArgs false
set_option linter.unusedSectionVars false
set_option linter.constructorNameAsVariable false
namespace Go.Proofs.Ytfefmgadfklgmaa.L2
open Go.RowKit

attribute [local go_sem] gw_cell gw_frozen gw_size

/-- steps lie in memory -/
def StepsAt (w : World) (a : Option Addr) (n : Nat) (K A Bs : Nat → Int) : Prop := n = 0 ∨ ∃ b off, a = some ⟨b, off, none⟩ ∧ b < w.heap.size ∧ ∀ i, i < n → w.cell? ⟨b, off + i * 3, none⟩ = some (.int .i64 (K i)) ∧ w.cell? ⟨b, off + i * 3 + 1, none⟩ = some (.int .i64 (A i)) ∧ w.cell? ⟨b, off + i * 3 + 2, none⟩ = some (.int .i64 (Bs i))
theorem StepsAt.below {w w' : World} {a : Option Addr} {n : Nat} {K A Bs : Nat → Int} (h : StepsAt w a n K A Bs) (hb : Below w.heap.size w w') : StepsAt w' a n K A Bs := by
  rcases h with h | ⟨b, off, e, hlt, hc⟩
  · exact .inl h
  · exact .inr ⟨b, off, e, Nat.lt_of_lt_of_le hlt hb.size, fun i hi => ⟨(hb.cell (p := ⟨b, off + i * 3, none⟩) hlt).trans (hc i hi).1, (hb.cell (p := ⟨b, off + i * 3 + 1, none⟩) hlt).trans (hc i hi).2.1, (hb.cell (p := ⟨b, off + i * 3 + 2, none⟩) hlt).trans (hc i hi).2.2⟩⟩
/-- malt behind steps -/
def Vt.at (v : Vt) (K A Bs : Nat → Int) : Nat → Vt
  | 0 => v
  | j + 1 => (v.at K A Bs j).step (K j) (A j) (Bs j)
def Vt.errAt (v : Vt) (K A Bs : Nat → Int) (j : Nat) : Int := (v.at K A Bs j).errS (K j) (A j) (Bs j)
/-- how many steps go well -/
def Vt.stop (v : Vt) (K A Bs : Nat → Int) : Nat → Nat
  | 0 => 0
  | k + 1 => if v.stop K A Bs k = k ∧ v.errAt K A Bs k = 0 then k + 1 else v.stop K A Bs k
section
variable (v : Vt) (K A Bs : Nat → Int)
theorem Vt.stop_le : ∀ k, v.stop K A Bs k ≤ k
  | 0 => Nat.le_refl _
  | k + 1 => by
    unfold Vt.stop
    have := Vt.stop_le k
    split <;> omega
theorem Vt.stop_lt : ∀ k j, j < v.stop K A Bs k → v.errAt K A Bs j = 0
  | 0, j, h => absurd h (Nat.not_lt_zero j)
  | k + 1, j, h => by
    unfold Vt.stop at h
    split at h
    · rename_i hh
      rcases Nat.lt_or_ge j k with x | x
      · exact Vt.stop_lt k j (by rw [hh.1]; exact x)
      · obtain rfl : j = k := by omega
        exact hh.2
    · exact Vt.stop_lt k j h
theorem Vt.stop_bad : ∀ k, v.stop K A Bs k < k → v.errAt K A Bs (v.stop K A Bs k) ≠ 0
  | 0, h => absurd h (Nat.not_lt_zero _)
  | k + 1, h => by
    unfold Vt.stop at h ⊢
    by_cases hh : v.stop K A Bs k = k ∧ v.errAt K A Bs k = 0
    · rw [if_pos hh] at h; omega
    · rw [if_neg hh] at h ⊢
      rcases Nat.lt_or_ge (v.stop K A Bs k) k with x | x
      · exact Vt.stop_bad k x
      · have e : v.stop K A Bs k = k := by have := Vt.stop_le v K A Bs k; omega
        rw [e]
        exact fun h0 => hh ⟨e, h0⟩
theorem Vt.Ok.at {v : Vt} {K A Bs : Nat → Int} (h : v.Ok) : ∀ j, (∀ i, i < j → v.errAt K A Bs i = 0) → (v.at K A Bs j).Ok
  | 0, _ => h
  | j + 1, he => (Vt.Ok.at h j (fun i hi => he i (by omega))).step (he j (by omega))
end
/-- malt that nothing was done with -/
def vt6 (dl dh wl wh pl ph : Int) : Vt := ⟨dl, dh, wl, wh, pl, ph, 0, 0, 0, 0, 0, 0, 0, 0⟩
theorem vt6_ok {dl dh wl wh pl ph : Int} (h : maltB dl dh wl wh pl ph = true) : (vt6 dl dh wl wh pl ph).Ok := by
  unfold maltB at h
  simp only [Bool.and_eq_true] at h
  have a := spanB_t.1 h.1
  have b := spanB_t.1 h.2.1
  have c := spanB_t.1 h.2.2
  refine ⟨a, b, c, ?_, ?_, ?_, ?_⟩ <;> unfold vt6 <;> dsimp only <;> omega
def Vt.malt (v : Vt) : Value := .agg #[.int .i64 v.dl, .int .i64 v.dh, .int .i64 v.wl, .int .i64 v.wh, .int .i64 v.pl, .int .i64 v.ph]
def Vt.loss (v : Vt) : Value := .agg #[.int .i64 v.tl, .int .i64 v.th, .int .i64 v.gl, .int .i64 v.gh, .int .i64 v.rl, .int .i64 v.rh, .int .i64 v.sl, .int .i64 v.sh]
def noMalt : Value := .agg #[.int .i64 0, .int .i64 0, .int .i64 0, .int .i64 0, .int .i64 0, .int .i64 0]
def noLoss : Value := .agg #[.int .i64 0, .int .i64 0, .int .i64 0, .int .i64 0, .int .i64 0, .int .i64 0, .int .i64 0, .int .i64 0]

/-- a world in which a block is as in V -/
structure KB (V : World) (B : Nat) where
  w : World
  h : w.heap[B]? = V.heap[B]?
theorem kb_cell {V : World} {B : Nat} (x : KB V B) {o : Nat} : x.w.cell? ⟨B, o, none⟩ = V.cell? ⟨B, o, none⟩ := by simp [World.cell?, x.h]
/-- a world in which two blocks are as in V -/
structure KB2 (V : World) (B R : Nat) where
  w : World
  h : w.heap[B]? = V.heap[B]?
  r : w.heap[R]? = V.heap[R]?
theorem kb2_cell {V : World} {B R : Nat} (x : KB2 V B R) {o : Nat} : x.w.cell? ⟨B, o, none⟩ = V.cell? ⟨B, o, none⟩ := by simp [World.cell?, x.h]
theorem kb2_cell' {V : World} {B R : Nat} (x : KB2 V B R) {o : Nat} : x.w.cell? ⟨R, o, none⟩ = V.cell? ⟨R, o, none⟩ := by simp [World.cell?, x.r]
/-- the results' variables while results are laid -/
structure PS (w V : World) (B : Nat) (c1 c2 c3 : Array Value) (X : World) : Prop where
  below : Below w.heap.size w X
  b : X.heap[B]? = V.heap[B]?
  r1 : X.heap[w.heap.size + 1]? = some (.cells c1 25 (0, 0))
  r2 : X.heap[w.heap.size + 1 + 1]? = some (.cells c2 43 (0, 0))
  r3 : X.heap[w.heap.size + 1 + 1 + 1]? = some (.cells c3 44 (0, 0))
section
variable {w V X : World} {B : Nat} {c1 c2 c3 : Array Value} (h : PS w V B c1 c2 c3 X) (hB : w.heap.size + 1 + 1 + 1 < B)
include h hB
theorem PS.set1 (k : Nat) (v : Value) : PS w V B (c1.setIfInBounds k v) c2 c3 (X.setCell ⟨w.heap.size + 1, k, none⟩ v) :=
  ⟨h.below.setCell (p := ⟨w.heap.size + 1, k, none⟩) (by simp <;> omega) v, (Below.heap_setCell X ⟨w.heap.size + 1, k, none⟩ v (B) (by simp <;> omega)).trans h.b, block_set k v h.r1, (Below.heap_setCell X ⟨w.heap.size + 1, k, none⟩ v (w.heap.size + 1 + 1) (by simp <;> omega)).trans h.r2, (Below.heap_setCell X ⟨w.heap.size + 1, k, none⟩ v (w.heap.size + 1 + 1 + 1) (by simp <;> omega)).trans h.r3⟩
theorem PS.set2 (k : Nat) (v : Value) : PS w V B c1 (c2.setIfInBounds k v) c3 (X.setCell ⟨w.heap.size + 1 + 1, k, none⟩ v) :=
  ⟨h.below.setCell (p := ⟨w.heap.size + 1 + 1, k, none⟩) (by simp <;> omega) v, (Below.heap_setCell X ⟨w.heap.size + 1 + 1, k, none⟩ v (B) (by simp <;> omega)).trans h.b, (Below.heap_setCell X ⟨w.heap.size + 1 + 1, k, none⟩ v (w.heap.size + 1) (by simp <;> omega)).trans h.r1, block_set k v h.r2, (Below.heap_setCell X ⟨w.heap.size + 1 + 1, k, none⟩ v (w.heap.size + 1 + 1 + 1) (by simp <;> omega)).trans h.r3⟩
theorem PS.set3 (k : Nat) (v : Value) : PS w V B c1 c2 (c3.setIfInBounds k v) (X.setCell ⟨w.heap.size + 1 + 1 + 1, k, none⟩ v) :=
  ⟨h.below.setCell (p := ⟨w.heap.size + 1 + 1 + 1, k, none⟩) (by simp <;> omega) v, (Below.heap_setCell X ⟨w.heap.size + 1 + 1 + 1, k, none⟩ v (B) (by simp <;> omega)).trans h.b, (Below.heap_setCell X ⟨w.heap.size + 1 + 1 + 1, k, none⟩ v (w.heap.size + 1) (by simp <;> omega)).trans h.r1, (Below.heap_setCell X ⟨w.heap.size + 1 + 1 + 1, k, none⟩ v (w.heap.size + 1 + 1) (by simp <;> omega)).trans h.r2, block_set k v h.r3⟩
omit hB
theorem PS.kb : ∃ x : KB V B, X = x.w := ⟨⟨X, h.b⟩, rfl⟩
theorem PS.gw (hv : B < X.heap.size) (z : Grew) : PS w V B c1 c2 c3 (Go.gw X z) :=
  ⟨h.below.gw z, (gw_block X z B hv).trans h.b, gw_keep h.r1 z, gw_keep h.r2 z, gw_keep h.r3 z⟩
theorem PS.lt (hv : B < V.heap.size) : B < X.heap.size := by
  have e := h.b
  rw [Array.getElem?_eq_getElem hv] at e
  exact (Array.getElem?_eq_some_iff.1 e).1
theorem PS.kept {W : World} {r : Option Nat} (g : X.grownBy W r) (hb : W.heap[B]? = V.heap[B]?) (hr : ∀ k, r = some k → w.heap.size + 1 + 1 + 1 < k) : PS w V B c1 c2 c3 W :=
  have n : ∀ j, j ≤ w.heap.size + 1 + 1 + 1 → some j ≠ r := fun j hj e => by have := hr j e.symm; omega
  ⟨h.below.grown g h.below.size (fun k e => by have := hr k e; omega), hb, (g.block _ (Array.getElem?_eq_some_iff.1 h.r1).1 (n _ (by omega))).trans h.r1, (g.block _ (Array.getElem?_eq_some_iff.1 h.r2).1 (n _ (by omega))).trans h.r2, (g.block _ (Array.getElem?_eq_some_iff.1 h.r3).1 (n _ (by omega))).trans h.r3⟩
theorem PS.kept2 {W : World} (g : X.grownBy W (some B)) (hr : ∀ k, some B = some k → w.heap.size + 1 + 1 + 1 < k) : PS w W B c1 c2 c3 W :=
  have n : ∀ j, j ≤ w.heap.size + 1 + 1 + 1 → some j ≠ some B := fun j hj e => by have := hr B rfl; cases e; omega
  ⟨h.below.grown g h.below.size (fun k e => by have := hr k e; omega), rfl, (g.block _ (Array.getElem?_eq_some_iff.1 h.r1).1 (n _ (by omega))).trans h.r1, (g.block _ (Array.getElem?_eq_some_iff.1 h.r2).1 (n _ (by omega))).trans h.r2, (g.block _ (Array.getElem?_eq_some_iff.1 h.r3).1 (n _ (by omega))).trans h.r3⟩
theorem PS.to (V' : World) (hb : X.heap[B]? = V'.heap[B]?) : PS w V' B c1 c2 c3 X := ⟨h.below, hb, h.r1, h.r2, h.r3⟩
end
attribute [local go_sem] kb_cell kb2_cell kb2_cell'

/-- how Play ends -/
def PlayEnd (v : Vt) (K A Bs : Nat → Int) (n m : Nat) (w : World) (e : Ending) (w' : World) : Prop :=
  Below w.heap.size w w' ∧ ((m = n ∧ e = .returned (.tuple #[(v.at K A Bs n).malt, (v.at K A Bs n).loss, .int .i64 (n : Int), .int .i64 0])) ∨ (m < n ∧ e = .returned (.tuple #[noMalt, noLoss, .int .i64 (m : Int), .int .i64 (v.errAt K A Bs m)])))
set_option maxRecDepth 100000 in
set_option maxHeartbeats 16000000 in
theorem playMain (dl dh wl wh pl ph : Int) (aS : Option Addr) (n cS : Nat) (K A Bs : Nat → Int) (m : Nat) (w : World) (hM : maltB dl dh wl wh pl ph = true) (hn : n ≤ 256) (hS : StepsAt w aS n K A Bs) (hm : m ≤ n)
    (hgo : ∀ j, j < m → (vt6 dl dh wl wh pl ph).errAt K A Bs j = 0) (hst : m < n → (vt6 dl dh wl wh pl ph).errAt K A Bs m ≠ 0) :
    Calls Try.prog 8 #[.agg #[.int .i64 dl, .int .i64 dh, .int .i64 wl, .int .i64 wh, .int .i64 pl, .int .i64 ph], .slice aS n cS] w (PlayEnd (vt6 dl dh wl wh pl ph) K A Bs n m w) := by
  have hmf : ∀ (fn : Fn) (first cap : Array Value) (w : World), (Instr.makeFunc fn first cap).run Try.prog w = .ok (.func fn first cap) w := fun _ _ _ _ => rfl
  obtain ⟨W1, hW1⟩ : ∃ W1, (((w.alloc (.cells #[.int .i64 dl, .int .i64 dh, .int .i64 wl, .int .i64 wh, .int .i64 pl, .int .i64 ph] 25)).alloc (.cells #[.int .i64 0, .int .i64 0, .int .i64 0, .int .i64 0, .int .i64 0, .int .i64 0] 25)).alloc (.cells #[.int .i64 0, .int .i64 0, .int .i64 0, .int .i64 0, .int .i64 0, .int .i64 0, .int .i64 0, .int .i64 0] 43)).alloc (.cells #[.int .i64 0] 44) = W1 := ⟨_, rfl⟩
  have hBc : Below w.heap.size w W1 := by rw [← hW1]; exact (((below_alloc _ _).alloc (by simp) _).alloc (by simp <;> omega) _).alloc (by simp <;> omega) _
  have zc0 : W1.heap[w.heap.size]? = some (.cells #[.int .i64 dl, .int .i64 dh, .int .i64 wl, .int .i64 wh, .int .i64 pl, .int .i64 ph] 25 (0, 0)) := by rw [← hW1]; exact alloc_keep (alloc_keep (alloc_keep (alloc_at rfl)))
  have zc1 : W1.heap[w.heap.size + 1]? = some (.cells #[.int .i64 0, .int .i64 0, .int .i64 0, .int .i64 0, .int .i64 0, .int .i64 0] 25 (0, 0)) := by rw [← hW1]; exact alloc_keep (alloc_keep (alloc_at (by simp)))
  have zc2 : W1.heap[w.heap.size + 1 + 1]? = some (.cells #[.int .i64 0, .int .i64 0, .int .i64 0, .int .i64 0, .int .i64 0, .int .i64 0, .int .i64 0, .int .i64 0] 43 (0, 0)) := by rw [← hW1]; exact alloc_keep (alloc_at (by simp <;> omega))
  have zc3 : W1.heap[w.heap.size + 1 + 1 + 1]? = some (.cells #[.int .i64 0] 44 (0, 0)) := by rw [← hW1]; exact alloc_at (by simp <;> omega)
  have c00 : W1.cell? ⟨w.heap.size, 0, none⟩ = some (.int .i64 dl) := cell_of_block zc0 0 (by simp)
  have c01 : W1.cell? ⟨w.heap.size, 1, none⟩ = some (.int .i64 dh) := cell_of_block zc0 1 (by simp)
  have c02 : W1.cell? ⟨w.heap.size, 2, none⟩ = some (.int .i64 wl) := cell_of_block zc0 2 (by simp)
  have c03 : W1.cell? ⟨w.heap.size, 3, none⟩ = some (.int .i64 wh) := cell_of_block zc0 3 (by simp)
  have c04 : W1.cell? ⟨w.heap.size, 4, none⟩ = some (.int .i64 pl) := cell_of_block zc0 4 (by simp)
  have c05 : W1.cell? ⟨w.heap.size, 5, none⟩ = some (.int .i64 ph) := cell_of_block zc0 5 (by simp)
  have c10 : W1.cell? ⟨w.heap.size + 1, 0, none⟩ = some (.int .i64 0) := cell_of_block zc1 0 (by simp)
  have c11 : W1.cell? ⟨w.heap.size + 1, 1, none⟩ = some (.int .i64 0) := cell_of_block zc1 1 (by simp)
  have c12 : W1.cell? ⟨w.heap.size + 1, 2, none⟩ = some (.int .i64 0) := cell_of_block zc1 2 (by simp)
  have c13 : W1.cell? ⟨w.heap.size + 1, 3, none⟩ = some (.int .i64 0) := cell_of_block zc1 3 (by simp)
  have c14 : W1.cell? ⟨w.heap.size + 1, 4, none⟩ = some (.int .i64 0) := cell_of_block zc1 4 (by simp)
  have c15 : W1.cell? ⟨w.heap.size + 1, 5, none⟩ = some (.int .i64 0) := cell_of_block zc1 5 (by simp)
  have c20 : W1.cell? ⟨w.heap.size + 1 + 1, 0, none⟩ = some (.int .i64 0) := cell_of_block zc2 0 (by simp)
  have c21 : W1.cell? ⟨w.heap.size + 1 + 1, 1, none⟩ = some (.int .i64 0) := cell_of_block zc2 1 (by simp)
  have c22 : W1.cell? ⟨w.heap.size + 1 + 1, 2, none⟩ = some (.int .i64 0) := cell_of_block zc2 2 (by simp)
  have c23 : W1.cell? ⟨w.heap.size + 1 + 1, 3, none⟩ = some (.int .i64 0) := cell_of_block zc2 3 (by simp)
  have c24 : W1.cell? ⟨w.heap.size + 1 + 1, 4, none⟩ = some (.int .i64 0) := cell_of_block zc2 4 (by simp)
  have c25 : W1.cell? ⟨w.heap.size + 1 + 1, 5, none⟩ = some (.int .i64 0) := cell_of_block zc2 5 (by simp)
  have c26 : W1.cell? ⟨w.heap.size + 1 + 1, 6, none⟩ = some (.int .i64 0) := cell_of_block zc2 6 (by simp)
  have c27 : W1.cell? ⟨w.heap.size + 1 + 1, 7, none⟩ = some (.int .i64 0) := cell_of_block zc2 7 (by simp)
  have c30 : W1.cell? ⟨w.heap.size + 1 + 1 + 1, 0, none⟩ = some (.int .i64 0) := cell_of_block zc3 0 (by simp)
  have lc0 := (Array.getElem?_eq_some_iff.1 zc0).1
  have lc1 := (Array.getElem?_eq_some_iff.1 zc1).1
  have lc2 := (Array.getElem?_eq_some_iff.1 zc2).1
  have lc3 := (Array.getElem?_eq_some_iff.1 zc3).1
  have Zc0 := Lib.hid zc0
  have Zc1 := Lib.hid zc1
  have Zc2 := Lib.hid zc2
  have Zc3 := Lib.hid zc3
  clear zc0 zc1 zc2 zc3
  have HBc := Lib.hid hBc; clear hBc
  have HWc := Lib.hid hW1; clear hW1
  obtain ⟨v0, hv0⟩ : ∃ v, vt6 dl dh wl wh pl ph = v := ⟨_, rfl⟩
  have HOK := Lib.hid (vt6_ok hM)
  have IM := isMalt_any dl dh wl wh pl ph
  rw [hM] at IM
  have IM := Lib.hid IM
  rw [hv0] at hgo hst ⊢
  rw [hv0] at HOK
  have HV0 := Lib.hid hv0
  have HS := Lib.hid (hS.below HBc.out)
  have HGO := Lib.hid hgo; have HST := Lib.hid hst
  clear hM hS hgo hst hv0
  have dn : decide ((n : Int) > 256) = false := by simp; omega
  have dn2 : decide ((256 : Int) < (n : Int)) = false := by simp; omega
  have dn3 : decide (256 < n) = false := by simp; omega
  go_enter_defers Try.func8, Try.ntmps8
  go_upto_region 1 with (fail)
  rw [HWc.out]
  go_wp2_with fail
  refine (Calls.grown (IM.out _)).mono ?_
  rintro e w2 ⟨rfl, z1, rfl⟩
  go_upto_region 7 with (fail)
  obtain ⟨B, hBd⟩ : ∃ B, W1.heap.size + z1.bs.size = B := ⟨_, rfl⟩
  obtain ⟨W2, hW2⟩ : ∃ W2, (gw W1 z1).alloc (.cells #[.int .i64 dl, .int .i64 dh, .int .i64 wl, .int .i64 wh, .int .i64 pl, .int .i64 ph, .int .i64 0, .int .i64 0, .int .i64 0, .int .i64 0, .int .i64 0, .int .i64 0, .int .i64 0, .int .i64 0] 84) = W2 := ⟨_, rfl⟩
  have hB3 : w.heap.size + 1 + 1 + 1 < B := by omega
  have zB : W2.heap[B]? = some (.cells v0.cells 84 (0, 0)) := by rw [← hW2, ← HV0.out]; exact alloc_at (by rw [gw_size]; exact hBd)
  have P0 : PS w W2 B #[.int .i64 0, .int .i64 0, .int .i64 0, .int .i64 0, .int .i64 0, .int .i64 0] #[.int .i64 0, .int .i64 0, .int .i64 0, .int .i64 0, .int .i64 0, .int .i64 0, .int .i64 0, .int .i64 0] #[.int .i64 0] W2 := by rw [← hW2]; exact ⟨(HBc.out.gw z1).alloc (HBc.out.gw z1).size _, rfl, alloc_keep (gw_keep Zc1.out z1), alloc_keep (gw_keep Zc2.out z1), alloc_keep (gw_keep Zc3.out z1)⟩
  have HS2 := Lib.hid (show n = 0 ∨ ∃ b off, aS = some ⟨b, off, none⟩ ∧ b < B ∧ b < W2.heap.size ∧ ∀ i, i < n → W2.cell? ⟨b, off + i * 3, none⟩ = some (.int .i64 (K i)) ∧ W2.cell? ⟨b, off + i * 3 + 1, none⟩ = some (.int .i64 (A i)) ∧ W2.cell? ⟨b, off + i * 3 + 2, none⟩ = some (.int .i64 (Bs i)) from by have hb : Below W1.heap.size W1 W2 := (by rw [← hW2]; exact thru (below_alloc _ _) (below_gw W1 z1)); rcases HS.out with h | ⟨b, off, e, hl, hc⟩; exact .inl h; exact .inr ⟨b, off, e, by omega, Nat.lt_of_lt_of_le hl hb.size, fun i hi => ⟨(hb.cell (p := ⟨b, off + i * 3, none⟩) hl).trans (hc i hi).1, (hb.cell (p := ⟨b, off + i * 3 + 1, none⟩) hl).trans (hc i hi).2.1, (hb.cell (p := ⟨b, off + i * 3 + 2, none⟩) hl).trans (hc i hi).2.2⟩⟩)
  rw [hBd, hW2]
  have P0 := Lib.hid P0
  have ZB := Lib.hid zB
  clear hW2 zB HS HBc HWc Zc0 Zc1 Zc2 Zc3 hBd lc0 lc1 lc2 lc3 c00 c01 c02 c03 c04 c05 c10 c11 c12 c13 c14 c15 c20 c21 c22 c23 c24 c25 c26 c27 c30
  have lB := (Array.getElem?_eq_some_iff.1 ZB.out).1
  go_wp2_with fail
  go_loopw [35] (fun s wr => ∃ j : Nat, j ≤ m ∧ s = .int .i64 (j : Int) ∧ Hid (wr.heap[B]? = some (.cells (v0.at K A Bs j).cells 84 (0, 0))) ∧ Hid (W2.grownBy wr (some B))) (fun s _ => n - (intOf s).toNat)
  case atStart => exact ⟨0, Nat.zero_le _, rfl, ZB, Lib.hid (grownBy_of_below (Below.refl _ _) _)⟩
  case round =>
    obtain ⟨j, hj, rfl, HB, HG⟩ := hrel
    have lr := (Array.getElem?_eq_some_iff.1 HB.out).1
    have sr := HG.out.size
    have P1 := Lib.hid ((P0.out.kept2 HG.out (fun k e => by cases e; exact hB3)))
    by_cases hlt : j < n
    · have hji : (j : Int) < (n : Int) := by omega
      have OK := HOK.out.at j (fun i hi => HGO.out i (by omega))
      have DO := do_any B (v0.at K A Bs j) (K j) (A j) (Bs j) wr HB.out OK
      unfold DoEnd misfit at DO
      have DO := Lib.hid DO
      clear OK
      rcases HS2.out with h0 | ⟨b, off, eS, hbB, hb2, hc⟩
      · omega
      obtain ⟨y0, y1, y2⟩ := hc j hlt
      have hbr := HG.out.block b hb2 (by simp; omega)
      replace y0 := (World.cell?_of_block (a := ⟨b, off + j * 3, none⟩) hbr).trans y0
      replace y1 := (World.cell?_of_block (a := ⟨b, off + j * 3 + 1, none⟩) hbr).trans y1
      replace y2 := (World.cell?_of_block (a := ⟨b, off + j * 3 + 2, none⟩) hbr).trans y2
      have lb : b < wr.heap.size := Nat.lt_of_lt_of_le hb2 sr
      subst eS
      have HLT := Lib.hid hlt
      clear hc hbr hlt
      go_wp2_with fail
      refine DO.out.mono ?_
      rintro e w9 ⟨hg, ⟨h0, rfl, hb⟩ | ⟨h0, rfl⟩⟩
      · have hjm : j < m := by rcases Nat.lt_or_ge j m with h | h; exact h; obtain rfl : j = m := (by omega); exact absurd h0 (HST.out HLT.out)
        have HB9 := Lib.hid hb
        have HG9 := Lib.hid (grownBy_trans HG.out hg)
        clear hg hb h0
        go_wp2_with fail
        go_roundw
        case rel => exact ⟨j + 1, hjm, by have := HLT.out; go_num, HB9, HG9⟩
        case measure => have := HLT.out; simp only [intOf]; omega
      · have hjm : j = m := by rcases Nat.lt_or_ge j m with h | h; exact absurd (HGO.out j h) h0; omega
        obtain ⟨er, her⟩ : ∃ x, (v0.at K A Bs j).errS (K j) (A j) (Bs j) = x := ⟨_, rfl⟩
        rw [her]
        have P9 := P1.out.kept2 hg (fun k e => by cases e; exact hB3)
        refine leaves_cons (f := 22) (args := #[.pointer (some ⟨w.heap.size + 1 + 1 + 1, 0, none⟩)]) (by simp) (by simp [go_sem]) ?_
        refine (defer_caught (w.heap.size + 1 + 1 + 1) 0 er [] w9 (cell_of_block P9.r3 0 (by simp)) (frozen_of_block P9.r3 0)).mono ?_
        rintro e u w8 ⟨rfl, rfl, wx, hbx, rfl⟩
        have l9 : B < w9.heap.size := Nat.lt_of_lt_of_le lr hg.size
        have P8 := (P9.kept (W := wx) (r := none) (grownBy_of_below hbx none) (hbx.block B l9) (fun k e => by cases e)).set3 hB3 0 (.int .i64 er)
        generalize wx.setCell ⟨w.heap.size + 1 + 1 + 1, 0, none⟩ (.int .i64 er) = Z at P8 ⊢
        have r10 : Z.cell? ⟨w.heap.size + 1, 0, none⟩ = some (.int .i64 0) := cell_of_block P8.r1 0 (by simp)
        have r11 : Z.cell? ⟨w.heap.size + 1, 1, none⟩ = some (.int .i64 0) := cell_of_block P8.r1 1 (by simp)
        have r12 : Z.cell? ⟨w.heap.size + 1, 2, none⟩ = some (.int .i64 0) := cell_of_block P8.r1 2 (by simp)
        have r13 : Z.cell? ⟨w.heap.size + 1, 3, none⟩ = some (.int .i64 0) := cell_of_block P8.r1 3 (by simp)
        have r14 : Z.cell? ⟨w.heap.size + 1, 4, none⟩ = some (.int .i64 0) := cell_of_block P8.r1 4 (by simp)
        have r15 : Z.cell? ⟨w.heap.size + 1, 5, none⟩ = some (.int .i64 0) := cell_of_block P8.r1 5 (by simp)
        have r20 : Z.cell? ⟨w.heap.size + 1 + 1, 0, none⟩ = some (.int .i64 0) := cell_of_block P8.r2 0 (by simp)
        have r21 : Z.cell? ⟨w.heap.size + 1 + 1, 1, none⟩ = some (.int .i64 0) := cell_of_block P8.r2 1 (by simp)
        have r22 : Z.cell? ⟨w.heap.size + 1 + 1, 2, none⟩ = some (.int .i64 0) := cell_of_block P8.r2 2 (by simp)
        have r23 : Z.cell? ⟨w.heap.size + 1 + 1, 3, none⟩ = some (.int .i64 0) := cell_of_block P8.r2 3 (by simp)
        have r24 : Z.cell? ⟨w.heap.size + 1 + 1, 4, none⟩ = some (.int .i64 0) := cell_of_block P8.r2 4 (by simp)
        have r25 : Z.cell? ⟨w.heap.size + 1 + 1, 5, none⟩ = some (.int .i64 0) := cell_of_block P8.r2 5 (by simp)
        have r26 : Z.cell? ⟨w.heap.size + 1 + 1, 6, none⟩ = some (.int .i64 0) := cell_of_block P8.r2 6 (by simp)
        have r27 : Z.cell? ⟨w.heap.size + 1 + 1, 7, none⟩ = some (.int .i64 0) := cell_of_block P8.r2 7 (by simp)
        have r30 : Z.cell? ⟨w.heap.size + 1 + 1 + 1, 0, none⟩ = some (.int .i64 er) := cell_of_block P8.r3 0 (by simp)
        simp [bodyPostD, Leaves, settle, results, Try.results8, go_sem, r10, r11, r12, r13, r14, r15, r20, r21, r22, r23, r24, r25, r26, r27, r30]
        exact ⟨P8.below, .inr ⟨by have := HLT.out; omega, by rw [← hjm, ← her]; rfl⟩⟩
    · have hjn : j = n := by omega
      have hmn : m = n := by omega
      subst hjn
      have HMN := Lib.hid hmn
      clear hmn hlt hj
      obtain ⟨vn, hvn⟩ : ∃ x, v0.at K A Bs j = x := ⟨_, rfl⟩
      rw [hvn] at HB
      have HVN := Lib.hid hvn; clear hvn
      have c0 : wr.cell? ⟨B, 0, none⟩ = some (.int .i64 vn.dl) := cell_of_block HB.out 0 (by simp [Vt.cells])
      have c1 : wr.cell? ⟨B, 1, none⟩ = some (.int .i64 vn.dh) := cell_of_block HB.out 1 (by simp [Vt.cells])
      have c2 : wr.cell? ⟨B, 2, none⟩ = some (.int .i64 vn.wl) := cell_of_block HB.out 2 (by simp [Vt.cells])
      have c3 : wr.cell? ⟨B, 3, none⟩ = some (.int .i64 vn.wh) := cell_of_block HB.out 3 (by simp [Vt.cells])
      have c4 : wr.cell? ⟨B, 4, none⟩ = some (.int .i64 vn.pl) := cell_of_block HB.out 4 (by simp [Vt.cells])
      have c5 : wr.cell? ⟨B, 5, none⟩ = some (.int .i64 vn.ph) := cell_of_block HB.out 5 (by simp [Vt.cells])
      have c6 : wr.cell? ⟨B, 6, none⟩ = some (.int .i64 vn.tl) := cell_of_block HB.out 6 (by simp [Vt.cells])
      have c7 : wr.cell? ⟨B, 7, none⟩ = some (.int .i64 vn.th) := cell_of_block HB.out 7 (by simp [Vt.cells])
      have c8 : wr.cell? ⟨B, 8, none⟩ = some (.int .i64 vn.gl) := cell_of_block HB.out 8 (by simp [Vt.cells])
      have c9 : wr.cell? ⟨B, 9, none⟩ = some (.int .i64 vn.gh) := cell_of_block HB.out 9 (by simp [Vt.cells])
      have c10 : wr.cell? ⟨B, 10, none⟩ = some (.int .i64 vn.rl) := cell_of_block HB.out 10 (by simp [Vt.cells])
      have c11 : wr.cell? ⟨B, 11, none⟩ = some (.int .i64 vn.rh) := cell_of_block HB.out 11 (by simp [Vt.cells])
      have c12 : wr.cell? ⟨B, 12, none⟩ = some (.int .i64 vn.sl) := cell_of_block HB.out 12 (by simp [Vt.cells])
      have c13 : wr.cell? ⟨B, 13, none⟩ = some (.int .i64 vn.sh) := cell_of_block HB.out 13 (by simp [Vt.cells])
      haveI : Nonempty (KB wr B) := ⟨⟨wr, rfl⟩⟩
      go_upto_region 12 with (fail)
      refine wp_region_steps (fun w9 => ∃ x : KB wr B, w9 = x.w) [([0, 1, 2, 3, 4, 5, 6, 7, 8, 9, 10, 11, 12, 13, 14], 15), ([16], 17), ([18], 19), ([20], 21)] [] [] (by kernel_rfl) (by kernel_rfl) ?_
      intro X1 hX1
      obtain ⟨x1, hx1⟩ := hX1
      have Q1 := Lib.hid (show PS w wr B #[.int .i64 0, .int .i64 0, .int .i64 0, .int .i64 0, .int .i64 0, .int .i64 0] #[.int .i64 0, .int .i64 0, .int .i64 0, .int .i64 0, .int .i64 0, .int .i64 0, .int .i64 0, .int .i64 0] #[.int .i64 0] X1 by rw [hx1]; exact P1.out.gw lr x1)
      refine ⟨Q1.out.kb, ?_⟩
      clear hx1
      refine wpSeg_cons ?_
      simp only [pickL, List.getElem?_cons_zero, List.getElem?_cons_succ]
      repeat (go_big_quiet_step (fail))
      refine wpQuiet_nil ?_
      have g0 : X1.cell? ⟨w.heap.size + 1, 0, none⟩ = some (.int .i64 0) := cell_of_block Q1.out.r1 0 (by simp)
      have h0 := frozen_of_block Q1.out.r1 0
      have g1 : X1.cell? ⟨w.heap.size + 1, 1, none⟩ = some (.int .i64 0) := cell_of_block Q1.out.r1 1 (by simp)
      have h1 := frozen_of_block Q1.out.r1 1
      have g2 : X1.cell? ⟨w.heap.size + 1, 2, none⟩ = some (.int .i64 0) := cell_of_block Q1.out.r1 2 (by simp)
      have h2 := frozen_of_block Q1.out.r1 2
      have g3 : X1.cell? ⟨w.heap.size + 1, 3, none⟩ = some (.int .i64 0) := cell_of_block Q1.out.r1 3 (by simp)
      have h3 := frozen_of_block Q1.out.r1 3
      have g4 : X1.cell? ⟨w.heap.size + 1, 4, none⟩ = some (.int .i64 0) := cell_of_block Q1.out.r1 4 (by simp)
      have h4 := frozen_of_block Q1.out.r1 4
      have g5 : X1.cell? ⟨w.heap.size + 1, 5, none⟩ = some (.int .i64 0) := cell_of_block Q1.out.r1 5 (by simp)
      have h5 := frozen_of_block Q1.out.r1 5
      have lx := (Array.getElem?_eq_some_iff.1 Q1.out.r1).1
      go_wp2_with fail
      clear lx g0 h0 g1 h1 g2 h2 g3 h3 g4 h4 g5 h5
      obtain ⟨X2, hX2⟩ : ∃ V, ((((((X1).setCell ⟨w.heap.size + 1, 0, none⟩ (.int .i64 0)).setCell ⟨w.heap.size + 1, 1, none⟩ (.int .i64 0)).setCell ⟨w.heap.size + 1, 2, none⟩ (.int .i64 0)).setCell ⟨w.heap.size + 1, 3, none⟩ (.int .i64 0)).setCell ⟨w.heap.size + 1, 4, none⟩ (.int .i64 0)).setCell ⟨w.heap.size + 1, 5, none⟩ (.int .i64 0) = V := ⟨_, rfl⟩
      have Q2 := Lib.hid (show PS w wr B #[.int .i64 0, .int .i64 0, .int .i64 0, .int .i64 0, .int .i64 0, .int .i64 0] #[.int .i64 0, .int .i64 0, .int .i64 0, .int .i64 0, .int .i64 0, .int .i64 0, .int .i64 0, .int .i64 0] #[.int .i64 0] X2 by rw [← hX2]; exact ((((((Q1.out).set1 hB3 0 (.int .i64 0)).set1 hB3 1 (.int .i64 0)).set1 hB3 2 (.int .i64 0)).set1 hB3 3 (.int .i64 0)).set1 hB3 4 (.int .i64 0)).set1 hB3 5 (.int .i64 0))
      rw [hX2]
      clear hX2 Q1
      refine contQ_now ⟨Q2.out.kb, ?_⟩
      refine wpSeg_cons ?_
      simp only [pickL, List.getElem?_cons_zero, List.getElem?_cons_succ]
      repeat (go_big_quiet_step (fail))
      refine wpQuiet_nil ?_
      have g0 : X2.cell? ⟨w.heap.size + 1, 0, none⟩ = some (.int .i64 0) := cell_of_block Q2.out.r1 0 (by simp)
      have h0 := frozen_of_block Q2.out.r1 0
      have g1 : X2.cell? ⟨w.heap.size + 1, 1, none⟩ = some (.int .i64 0) := cell_of_block Q2.out.r1 1 (by simp)
      have h1 := frozen_of_block Q2.out.r1 1
      have lx := (Array.getElem?_eq_some_iff.1 Q2.out.r1).1
      go_wp2_with fail
      clear lx g0 h0 g1 h1
      obtain ⟨X3, hX3⟩ : ∃ V, ((X2).setCell ⟨w.heap.size + 1, 0, none⟩ (.int .i64 vn.dl)).setCell ⟨w.heap.size + 1, 1, none⟩ (.int .i64 vn.dh) = V := ⟨_, rfl⟩
      have Q3 := Lib.hid (show PS w wr B #[.int .i64 vn.dl, .int .i64 vn.dh, .int .i64 0, .int .i64 0, .int .i64 0, .int .i64 0] #[.int .i64 0, .int .i64 0, .int .i64 0, .int .i64 0, .int .i64 0, .int .i64 0, .int .i64 0, .int .i64 0] #[.int .i64 0] X3 by rw [← hX3]; exact ((Q2.out).set1 hB3 0 (.int .i64 vn.dl)).set1 hB3 1 (.int .i64 vn.dh))
      rw [hX3]
      clear hX3 Q2
      refine contQ_now ⟨Q3.out.kb, ?_⟩
      refine wpSeg_cons ?_
      simp only [pickL, List.getElem?_cons_zero, List.getElem?_cons_succ]
      repeat (go_big_quiet_step (fail))
      refine wpQuiet_nil ?_
      have g0 : X3.cell? ⟨w.heap.size + 1, 2, none⟩ = some (.int .i64 0) := cell_of_block Q3.out.r1 2 (by simp)
      have h0 := frozen_of_block Q3.out.r1 2
      have g1 : X3.cell? ⟨w.heap.size + 1, 3, none⟩ = some (.int .i64 0) := cell_of_block Q3.out.r1 3 (by simp)
      have h1 := frozen_of_block Q3.out.r1 3
      have lx := (Array.getElem?_eq_some_iff.1 Q3.out.r1).1
      go_wp2_with fail
      clear lx g0 h0 g1 h1
      obtain ⟨X4, hX4⟩ : ∃ V, ((X3).setCell ⟨w.heap.size + 1, 2, none⟩ (.int .i64 vn.wl)).setCell ⟨w.heap.size + 1, 3, none⟩ (.int .i64 vn.wh) = V := ⟨_, rfl⟩
      have Q4 := Lib.hid (show PS w wr B #[.int .i64 vn.dl, .int .i64 vn.dh, .int .i64 vn.wl, .int .i64 vn.wh, .int .i64 0, .int .i64 0] #[.int .i64 0, .int .i64 0, .int .i64 0, .int .i64 0, .int .i64 0, .int .i64 0, .int .i64 0, .int .i64 0] #[.int .i64 0] X4 by rw [← hX4]; exact ((Q3.out).set1 hB3 2 (.int .i64 vn.wl)).set1 hB3 3 (.int .i64 vn.wh))
      rw [hX4]
      clear hX4 Q3
      refine contQ_now ⟨Q4.out.kb, ?_⟩
      refine wpSeg_cons ?_
      simp only [pickL, List.getElem?_cons_zero, List.getElem?_cons_succ]
      repeat (go_big_quiet_step (fail))
      refine wpQuiet_nil ?_
      have g0 : X4.cell? ⟨w.heap.size + 1, 4, none⟩ = some (.int .i64 0) := cell_of_block Q4.out.r1 4 (by simp)
      have h0 := frozen_of_block Q4.out.r1 4
      have g1 : X4.cell? ⟨w.heap.size + 1, 5, none⟩ = some (.int .i64 0) := cell_of_block Q4.out.r1 5 (by simp)
      have h1 := frozen_of_block Q4.out.r1 5
      have lx := (Array.getElem?_eq_some_iff.1 Q4.out.r1).1
      go_wp2_with fail
      clear lx g0 h0 g1 h1
      obtain ⟨X5, hX5⟩ : ∃ V, ((X4).setCell ⟨w.heap.size + 1, 4, none⟩ (.int .i64 vn.pl)).setCell ⟨w.heap.size + 1, 5, none⟩ (.int .i64 vn.ph) = V := ⟨_, rfl⟩
      have Q5 := Lib.hid (show PS w wr B #[.int .i64 vn.dl, .int .i64 vn.dh, .int .i64 vn.wl, .int .i64 vn.wh, .int .i64 vn.pl, .int .i64 vn.ph] #[.int .i64 0, .int .i64 0, .int .i64 0, .int .i64 0, .int .i64 0, .int .i64 0, .int .i64 0, .int .i64 0] #[.int .i64 0] X5 by rw [← hX5]; exact ((Q4.out).set1 hB3 4 (.int .i64 vn.pl)).set1 hB3 5 (.int .i64 vn.ph))
      rw [hX5]
      clear hX5 Q4
      refine contQ_now ⟨Q5.out.kb, ?_⟩
      refine wpSeg_nil ?_
      simp only [pickL, List.getElem?_cons_zero, List.getElem?_cons_succ]
      repeat (go_big_quiet_step (fail))
      refine wpQuiet_nil ?_
      refine contN_nil ?_
      obtain ⟨V, rfl⟩ : ∃ V, V = X5 := ⟨_, rfl⟩
      have lV := Q5.out.lt lr
      replace c0 := (World.cell?_of_block (a := ⟨B, 0, none⟩) Q5.out.b).trans c0
      replace c1 := (World.cell?_of_block (a := ⟨B, 1, none⟩) Q5.out.b).trans c1
      replace c2 := (World.cell?_of_block (a := ⟨B, 2, none⟩) Q5.out.b).trans c2
      replace c3 := (World.cell?_of_block (a := ⟨B, 3, none⟩) Q5.out.b).trans c3
      replace c4 := (World.cell?_of_block (a := ⟨B, 4, none⟩) Q5.out.b).trans c4
      replace c5 := (World.cell?_of_block (a := ⟨B, 5, none⟩) Q5.out.b).trans c5
      replace c6 := (World.cell?_of_block (a := ⟨B, 6, none⟩) Q5.out.b).trans c6
      replace c7 := (World.cell?_of_block (a := ⟨B, 7, none⟩) Q5.out.b).trans c7
      replace c8 := (World.cell?_of_block (a := ⟨B, 8, none⟩) Q5.out.b).trans c8
      replace c9 := (World.cell?_of_block (a := ⟨B, 9, none⟩) Q5.out.b).trans c9
      replace c10 := (World.cell?_of_block (a := ⟨B, 10, none⟩) Q5.out.b).trans c10
      replace c11 := (World.cell?_of_block (a := ⟨B, 11, none⟩) Q5.out.b).trans c11
      replace c12 := (World.cell?_of_block (a := ⟨B, 12, none⟩) Q5.out.b).trans c12
      replace c13 := (World.cell?_of_block (a := ⟨B, 13, none⟩) Q5.out.b).trans c13
      have r10 : V.cell? ⟨w.heap.size + 1, 0, none⟩ = some (.int .i64 vn.dl) := cell_of_block Q5.out.r1 0 (by simp)
      have r11 : V.cell? ⟨w.heap.size + 1, 1, none⟩ = some (.int .i64 vn.dh) := cell_of_block Q5.out.r1 1 (by simp)
      have r12 : V.cell? ⟨w.heap.size + 1, 2, none⟩ = some (.int .i64 vn.wl) := cell_of_block Q5.out.r1 2 (by simp)
      have r13 : V.cell? ⟨w.heap.size + 1, 3, none⟩ = some (.int .i64 vn.wh) := cell_of_block Q5.out.r1 3 (by simp)
      have r14 : V.cell? ⟨w.heap.size + 1, 4, none⟩ = some (.int .i64 vn.pl) := cell_of_block Q5.out.r1 4 (by simp)
      have r15 : V.cell? ⟨w.heap.size + 1, 5, none⟩ = some (.int .i64 vn.ph) := cell_of_block Q5.out.r1 5 (by simp)
      have lR := (Array.getElem?_eq_some_iff.1 Q5.out.r1).1
      have QV := Lib.hid (Q5.out.to V rfl)
      haveI : Nonempty (KB2 V B (w.heap.size + 1)) := ⟨⟨V, rfl, rfl⟩⟩
      go_upto_region 13 with (fail)
      refine wp_region_steps (fun w9 => ∃ x : KB2 V B (w.heap.size + 1), w9 = x.w) [([0, 1, 2, 3, 4, 5, 6, 7, 8, 9, 10, 11, 12, 13, 14, 15, 16, 17, 18, 19, 20, 21, 22], 23), ([], 24), ([25], 26), ([27], 28), ([29], 30), ([31], 32), ([33], 34)] [] [] (by kernel_rfl) (by kernel_rfl) ?_
      intro X20 hX1
      obtain ⟨x1, hx1⟩ := hX1
      have Q20 := Lib.hid (show PS w V B #[.int .i64 vn.dl, .int .i64 vn.dh, .int .i64 vn.wl, .int .i64 vn.wh, .int .i64 vn.pl, .int .i64 vn.ph] #[.int .i64 0, .int .i64 0, .int .i64 0, .int .i64 0, .int .i64 0, .int .i64 0, .int .i64 0, .int .i64 0] #[.int .i64 0] X20 by rw [hx1]; exact QV.out.gw lV x1)
      refine ⟨⟨⟨_, Q20.out.b, Q20.out.r1.trans QV.out.r1.symm⟩, rfl⟩, ?_⟩
      clear hx1
      refine wpSeg_cons ?_
      simp only [pickL, List.getElem?_cons_zero, List.getElem?_cons_succ]
      repeat (go_big_quiet_step (fail))
      refine wpQuiet_nil ?_
      have g0 : X20.cell? ⟨w.heap.size + 1, 0, none⟩ = some (.int .i64 vn.dl) := cell_of_block Q20.out.r1 0 (by simp)
      have h0 := frozen_of_block Q20.out.r1 0
      have g1 : X20.cell? ⟨w.heap.size + 1, 1, none⟩ = some (.int .i64 vn.dh) := cell_of_block Q20.out.r1 1 (by simp)
      have h1 := frozen_of_block Q20.out.r1 1
      have g2 : X20.cell? ⟨w.heap.size + 1, 2, none⟩ = some (.int .i64 vn.wl) := cell_of_block Q20.out.r1 2 (by simp)
      have h2 := frozen_of_block Q20.out.r1 2
      have g3 : X20.cell? ⟨w.heap.size + 1, 3, none⟩ = some (.int .i64 vn.wh) := cell_of_block Q20.out.r1 3 (by simp)
      have h3 := frozen_of_block Q20.out.r1 3
      have g4 : X20.cell? ⟨w.heap.size + 1, 4, none⟩ = some (.int .i64 vn.pl) := cell_of_block Q20.out.r1 4 (by simp)
      have h4 := frozen_of_block Q20.out.r1 4
      have g5 : X20.cell? ⟨w.heap.size + 1, 5, none⟩ = some (.int .i64 vn.ph) := cell_of_block Q20.out.r1 5 (by simp)
      have h5 := frozen_of_block Q20.out.r1 5
      have lx := (Array.getElem?_eq_some_iff.1 Q20.out.r1).1
      go_wp2_with fail
      clear lx g0 h0 g1 h1 g2 h2 g3 h3 g4 h4 g5 h5
      obtain ⟨X21, hX21⟩ : ∃ V, ((((((X20).setCell ⟨w.heap.size + 1, 0, none⟩ (.int .i64 vn.dl)).setCell ⟨w.heap.size + 1, 1, none⟩ (.int .i64 vn.dh)).setCell ⟨w.heap.size + 1, 2, none⟩ (.int .i64 vn.wl)).setCell ⟨w.heap.size + 1, 3, none⟩ (.int .i64 vn.wh)).setCell ⟨w.heap.size + 1, 4, none⟩ (.int .i64 vn.pl)).setCell ⟨w.heap.size + 1, 5, none⟩ (.int .i64 vn.ph) = V := ⟨_, rfl⟩
      have Q21 := Lib.hid (show PS w V B #[.int .i64 vn.dl, .int .i64 vn.dh, .int .i64 vn.wl, .int .i64 vn.wh, .int .i64 vn.pl, .int .i64 vn.ph] #[.int .i64 0, .int .i64 0, .int .i64 0, .int .i64 0, .int .i64 0, .int .i64 0, .int .i64 0, .int .i64 0] #[.int .i64 0] X21 by rw [← hX21]; exact ((((((Q20.out).set1 hB3 0 (.int .i64 vn.dl)).set1 hB3 1 (.int .i64 vn.dh)).set1 hB3 2 (.int .i64 vn.wl)).set1 hB3 3 (.int .i64 vn.wh)).set1 hB3 4 (.int .i64 vn.pl)).set1 hB3 5 (.int .i64 vn.ph))
      rw [hX21]
      clear hX21 Q20
      refine contQ_now ⟨⟨⟨_, Q21.out.b, Q21.out.r1.trans QV.out.r1.symm⟩, rfl⟩, ?_⟩
      refine wpSeg_cons ?_
      simp only [pickL, List.getElem?_cons_zero, List.getElem?_cons_succ]
      repeat (go_big_quiet_step (fail))
      refine wpQuiet_nil ?_
      have g0 : X21.cell? ⟨w.heap.size + 1 + 1, 0, none⟩ = some (.int .i64 0) := cell_of_block Q21.out.r2 0 (by simp)
      have h0 := frozen_of_block Q21.out.r2 0
      have g1 : X21.cell? ⟨w.heap.size + 1 + 1, 1, none⟩ = some (.int .i64 0) := cell_of_block Q21.out.r2 1 (by simp)
      have h1 := frozen_of_block Q21.out.r2 1
      have g2 : X21.cell? ⟨w.heap.size + 1 + 1, 2, none⟩ = some (.int .i64 0) := cell_of_block Q21.out.r2 2 (by simp)
      have h2 := frozen_of_block Q21.out.r2 2
      have g3 : X21.cell? ⟨w.heap.size + 1 + 1, 3, none⟩ = some (.int .i64 0) := cell_of_block Q21.out.r2 3 (by simp)
      have h3 := frozen_of_block Q21.out.r2 3
      have g4 : X21.cell? ⟨w.heap.size + 1 + 1, 4, none⟩ = some (.int .i64 0) := cell_of_block Q21.out.r2 4 (by simp)
      have h4 := frozen_of_block Q21.out.r2 4
      have g5 : X21.cell? ⟨w.heap.size + 1 + 1, 5, none⟩ = some (.int .i64 0) := cell_of_block Q21.out.r2 5 (by simp)
      have h5 := frozen_of_block Q21.out.r2 5
      have g6 : X21.cell? ⟨w.heap.size + 1 + 1, 6, none⟩ = some (.int .i64 0) := cell_of_block Q21.out.r2 6 (by simp)
      have h6 := frozen_of_block Q21.out.r2 6
      have g7 : X21.cell? ⟨w.heap.size + 1 + 1, 7, none⟩ = some (.int .i64 0) := cell_of_block Q21.out.r2 7 (by simp)
      have h7 := frozen_of_block Q21.out.r2 7
      have lx := (Array.getElem?_eq_some_iff.1 Q21.out.r2).1
      go_wp2_with fail
      clear lx g0 h0 g1 h1 g2 h2 g3 h3 g4 h4 g5 h5 g6 h6 g7 h7
      obtain ⟨X22, hX22⟩ : ∃ V, ((((((((X21).setCell ⟨w.heap.size + 1 + 1, 0, none⟩ (.int .i64 0)).setCell ⟨w.heap.size + 1 + 1, 1, none⟩ (.int .i64 0)).setCell ⟨w.heap.size + 1 + 1, 2, none⟩ (.int .i64 0)).setCell ⟨w.heap.size + 1 + 1, 3, none⟩ (.int .i64 0)).setCell ⟨w.heap.size + 1 + 1, 4, none⟩ (.int .i64 0)).setCell ⟨w.heap.size + 1 + 1, 5, none⟩ (.int .i64 0)).setCell ⟨w.heap.size + 1 + 1, 6, none⟩ (.int .i64 0)).setCell ⟨w.heap.size + 1 + 1, 7, none⟩ (.int .i64 0) = V := ⟨_, rfl⟩
      have Q22 := Lib.hid (show PS w V B #[.int .i64 vn.dl, .int .i64 vn.dh, .int .i64 vn.wl, .int .i64 vn.wh, .int .i64 vn.pl, .int .i64 vn.ph] #[.int .i64 0, .int .i64 0, .int .i64 0, .int .i64 0, .int .i64 0, .int .i64 0, .int .i64 0, .int .i64 0] #[.int .i64 0] X22 by rw [← hX22]; exact ((((((((Q21.out).set2 hB3 0 (.int .i64 0)).set2 hB3 1 (.int .i64 0)).set2 hB3 2 (.int .i64 0)).set2 hB3 3 (.int .i64 0)).set2 hB3 4 (.int .i64 0)).set2 hB3 5 (.int .i64 0)).set2 hB3 6 (.int .i64 0)).set2 hB3 7 (.int .i64 0))
      rw [hX22]
      clear hX22 Q21
      refine contQ_now ⟨⟨⟨_, Q22.out.b, Q22.out.r1.trans QV.out.r1.symm⟩, rfl⟩, ?_⟩
      refine wpSeg_cons ?_
      simp only [pickL, List.getElem?_cons_zero, List.getElem?_cons_succ]
      repeat (go_big_quiet_step (fail))
      refine wpQuiet_nil ?_
      have g0 : X22.cell? ⟨w.heap.size + 1 + 1, 0, none⟩ = some (.int .i64 0) := cell_of_block Q22.out.r2 0 (by simp)
      have h0 := frozen_of_block Q22.out.r2 0
      have g1 : X22.cell? ⟨w.heap.size + 1 + 1, 1, none⟩ = some (.int .i64 0) := cell_of_block Q22.out.r2 1 (by simp)
      have h1 := frozen_of_block Q22.out.r2 1
      have lx := (Array.getElem?_eq_some_iff.1 Q22.out.r2).1
      go_wp2_with fail
      clear lx g0 h0 g1 h1
      obtain ⟨X23, hX23⟩ : ∃ V, ((X22).setCell ⟨w.heap.size + 1 + 1, 0, none⟩ (.int .i64 vn.tl)).setCell ⟨w.heap.size + 1 + 1, 1, none⟩ (.int .i64 vn.th) = V := ⟨_, rfl⟩
      have Q23 := Lib.hid (show PS w V B #[.int .i64 vn.dl, .int .i64 vn.dh, .int .i64 vn.wl, .int .i64 vn.wh, .int .i64 vn.pl, .int .i64 vn.ph] #[.int .i64 vn.tl, .int .i64 vn.th, .int .i64 0, .int .i64 0, .int .i64 0, .int .i64 0, .int .i64 0, .int .i64 0] #[.int .i64 0] X23 by rw [← hX23]; exact ((Q22.out).set2 hB3 0 (.int .i64 vn.tl)).set2 hB3 1 (.int .i64 vn.th))
      rw [hX23]
      clear hX23 Q22
      refine contQ_now ⟨⟨⟨_, Q23.out.b, Q23.out.r1.trans QV.out.r1.symm⟩, rfl⟩, ?_⟩
      refine wpSeg_cons ?_
      simp only [pickL, List.getElem?_cons_zero, List.getElem?_cons_succ]
      repeat (go_big_quiet_step (fail))
      refine wpQuiet_nil ?_
      have g0 : X23.cell? ⟨w.heap.size + 1 + 1, 2, none⟩ = some (.int .i64 0) := cell_of_block Q23.out.r2 2 (by simp)
      have h0 := frozen_of_block Q23.out.r2 2
      have g1 : X23.cell? ⟨w.heap.size + 1 + 1, 3, none⟩ = some (.int .i64 0) := cell_of_block Q23.out.r2 3 (by simp)
      have h1 := frozen_of_block Q23.out.r2 3
      have lx := (Array.getElem?_eq_some_iff.1 Q23.out.r2).1
      go_wp2_with fail
      clear lx g0 h0 g1 h1
      obtain ⟨X24, hX24⟩ : ∃ V, ((X23).setCell ⟨w.heap.size + 1 + 1, 2, none⟩ (.int .i64 vn.gl)).setCell ⟨w.heap.size + 1 + 1, 3, none⟩ (.int .i64 vn.gh) = V := ⟨_, rfl⟩
      have Q24 := Lib.hid (show PS w V B #[.int .i64 vn.dl, .int .i64 vn.dh, .int .i64 vn.wl, .int .i64 vn.wh, .int .i64 vn.pl, .int .i64 vn.ph] #[.int .i64 vn.tl, .int .i64 vn.th, .int .i64 vn.gl, .int .i64 vn.gh, .int .i64 0, .int .i64 0, .int .i64 0, .int .i64 0] #[.int .i64 0] X24 by rw [← hX24]; exact ((Q23.out).set2 hB3 2 (.int .i64 vn.gl)).set2 hB3 3 (.int .i64 vn.gh))
      rw [hX24]
      clear hX24 Q23
      refine contQ_now ⟨⟨⟨_, Q24.out.b, Q24.out.r1.trans QV.out.r1.symm⟩, rfl⟩, ?_⟩
      refine wpSeg_cons ?_
      simp only [pickL, List.getElem?_cons_zero, List.getElem?_cons_succ]
      repeat (go_big_quiet_step (fail))
      refine wpQuiet_nil ?_
      have g0 : X24.cell? ⟨w.heap.size + 1 + 1, 4, none⟩ = some (.int .i64 0) := cell_of_block Q24.out.r2 4 (by simp)
      have h0 := frozen_of_block Q24.out.r2 4
      have g1 : X24.cell? ⟨w.heap.size + 1 + 1, 5, none⟩ = some (.int .i64 0) := cell_of_block Q24.out.r2 5 (by simp)
      have h1 := frozen_of_block Q24.out.r2 5
      have lx := (Array.getElem?_eq_some_iff.1 Q24.out.r2).1
      go_wp2_with fail
      clear lx g0 h0 g1 h1
      obtain ⟨X25, hX25⟩ : ∃ V, ((X24).setCell ⟨w.heap.size + 1 + 1, 4, none⟩ (.int .i64 vn.rl)).setCell ⟨w.heap.size + 1 + 1, 5, none⟩ (.int .i64 vn.rh) = V := ⟨_, rfl⟩
      have Q25 := Lib.hid (show PS w V B #[.int .i64 vn.dl, .int .i64 vn.dh, .int .i64 vn.wl, .int .i64 vn.wh, .int .i64 vn.pl, .int .i64 vn.ph] #[.int .i64 vn.tl, .int .i64 vn.th, .int .i64 vn.gl, .int .i64 vn.gh, .int .i64 vn.rl, .int .i64 vn.rh, .int .i64 0, .int .i64 0] #[.int .i64 0] X25 by rw [← hX25]; exact ((Q24.out).set2 hB3 4 (.int .i64 vn.rl)).set2 hB3 5 (.int .i64 vn.rh))
      rw [hX25]
      clear hX25 Q24
      refine contQ_now ⟨⟨⟨_, Q25.out.b, Q25.out.r1.trans QV.out.r1.symm⟩, rfl⟩, ?_⟩
      refine wpSeg_cons ?_
      simp only [pickL, List.getElem?_cons_zero, List.getElem?_cons_succ]
      repeat (go_big_quiet_step (fail))
      refine wpQuiet_nil ?_
      have g0 : X25.cell? ⟨w.heap.size + 1 + 1, 6, none⟩ = some (.int .i64 0) := cell_of_block Q25.out.r2 6 (by simp)
      have h0 := frozen_of_block Q25.out.r2 6
      have g1 : X25.cell? ⟨w.heap.size + 1 + 1, 7, none⟩ = some (.int .i64 0) := cell_of_block Q25.out.r2 7 (by simp)
      have h1 := frozen_of_block Q25.out.r2 7
      have lx := (Array.getElem?_eq_some_iff.1 Q25.out.r2).1
      go_wp2_with fail
      clear lx g0 h0 g1 h1
      obtain ⟨X26, hX26⟩ : ∃ V, ((X25).setCell ⟨w.heap.size + 1 + 1, 6, none⟩ (.int .i64 vn.sl)).setCell ⟨w.heap.size + 1 + 1, 7, none⟩ (.int .i64 vn.sh) = V := ⟨_, rfl⟩
      have Q26 := Lib.hid (show PS w V B #[.int .i64 vn.dl, .int .i64 vn.dh, .int .i64 vn.wl, .int .i64 vn.wh, .int .i64 vn.pl, .int .i64 vn.ph] #[.int .i64 vn.tl, .int .i64 vn.th, .int .i64 vn.gl, .int .i64 vn.gh, .int .i64 vn.rl, .int .i64 vn.rh, .int .i64 vn.sl, .int .i64 vn.sh] #[.int .i64 0] X26 by rw [← hX26]; exact ((Q25.out).set2 hB3 6 (.int .i64 vn.sl)).set2 hB3 7 (.int .i64 vn.sh))
      rw [hX26]
      clear hX26 Q25
      refine contQ_now ⟨⟨⟨_, Q26.out.b, Q26.out.r1.trans QV.out.r1.symm⟩, rfl⟩, ?_⟩
      refine wpSeg_cons ?_
      simp only [pickL, List.getElem?_cons_zero, List.getElem?_cons_succ]
      repeat (go_big_quiet_step (fail))
      refine wpQuiet_nil ?_
      have g0 : X26.cell? ⟨w.heap.size + 1 + 1 + 1, 0, none⟩ = some (.int .i64 0) := cell_of_block Q26.out.r3 0 (by simp)
      have h0 := frozen_of_block Q26.out.r3 0
      have lx := (Array.getElem?_eq_some_iff.1 Q26.out.r3).1
      go_wp2_with fail
      clear lx g0 h0
      obtain ⟨X27, hX27⟩ : ∃ V, (X26).setCell ⟨w.heap.size + 1 + 1 + 1, 0, none⟩ (.int .i64 0) = V := ⟨_, rfl⟩
      have Q27 := Lib.hid (show PS w V B #[.int .i64 vn.dl, .int .i64 vn.dh, .int .i64 vn.wl, .int .i64 vn.wh, .int .i64 vn.pl, .int .i64 vn.ph] #[.int .i64 vn.tl, .int .i64 vn.th, .int .i64 vn.gl, .int .i64 vn.gh, .int .i64 vn.rl, .int .i64 vn.rh, .int .i64 vn.sl, .int .i64 vn.sh] #[.int .i64 0] X27 by rw [← hX27]; exact (Q26.out).set3 hB3 0 (.int .i64 0))
      rw [hX27]
      clear hX27 Q26
      refine contQ_now ⟨⟨⟨_, Q27.out.b, Q27.out.r1.trans QV.out.r1.symm⟩, rfl⟩, ?_⟩
      refine wpSeg_nil ?_
      simp only [pickL, List.getElem?_cons_zero, List.getElem?_cons_succ]
      repeat (go_big_quiet_step (fail))
      refine wpQuiet_nil ?_
      refine contN_nil ?_
      go_wp2_with fail
      refine leaves_cons (f := 22) (args := #[.pointer (some ⟨w.heap.size + 1 + 1 + 1, 0, none⟩)]) (by simp) (by simp [go_sem]) ?_
      refine (defer_idle (w.heap.size + 1 + 1 + 1) _).mono ?_
      rintro e u w8 ⟨rfl, rfl, rfl⟩
      have P8 := Q27.out
      generalize X27 = Z at P8 ⊢
      clear r10 r11 r12 r13 r14 r15
      have r10 : Z.cell? ⟨w.heap.size + 1, 0, none⟩ = some (.int .i64 vn.dl) := cell_of_block P8.r1 0 (by simp)
      have r11 : Z.cell? ⟨w.heap.size + 1, 1, none⟩ = some (.int .i64 vn.dh) := cell_of_block P8.r1 1 (by simp)
      have r12 : Z.cell? ⟨w.heap.size + 1, 2, none⟩ = some (.int .i64 vn.wl) := cell_of_block P8.r1 2 (by simp)
      have r13 : Z.cell? ⟨w.heap.size + 1, 3, none⟩ = some (.int .i64 vn.wh) := cell_of_block P8.r1 3 (by simp)
      have r14 : Z.cell? ⟨w.heap.size + 1, 4, none⟩ = some (.int .i64 vn.pl) := cell_of_block P8.r1 4 (by simp)
      have r15 : Z.cell? ⟨w.heap.size + 1, 5, none⟩ = some (.int .i64 vn.ph) := cell_of_block P8.r1 5 (by simp)
      have r20 : Z.cell? ⟨w.heap.size + 1 + 1, 0, none⟩ = some (.int .i64 vn.tl) := cell_of_block P8.r2 0 (by simp)
      have r21 : Z.cell? ⟨w.heap.size + 1 + 1, 1, none⟩ = some (.int .i64 vn.th) := cell_of_block P8.r2 1 (by simp)
      have r22 : Z.cell? ⟨w.heap.size + 1 + 1, 2, none⟩ = some (.int .i64 vn.gl) := cell_of_block P8.r2 2 (by simp)
      have r23 : Z.cell? ⟨w.heap.size + 1 + 1, 3, none⟩ = some (.int .i64 vn.gh) := cell_of_block P8.r2 3 (by simp)
      have r24 : Z.cell? ⟨w.heap.size + 1 + 1, 4, none⟩ = some (.int .i64 vn.rl) := cell_of_block P8.r2 4 (by simp)
      have r25 : Z.cell? ⟨w.heap.size + 1 + 1, 5, none⟩ = some (.int .i64 vn.rh) := cell_of_block P8.r2 5 (by simp)
      have r26 : Z.cell? ⟨w.heap.size + 1 + 1, 6, none⟩ = some (.int .i64 vn.sl) := cell_of_block P8.r2 6 (by simp)
      have r27 : Z.cell? ⟨w.heap.size + 1 + 1, 7, none⟩ = some (.int .i64 vn.sh) := cell_of_block P8.r2 7 (by simp)
      have r30 : Z.cell? ⟨w.heap.size + 1 + 1 + 1, 0, none⟩ = some (.int .i64 0) := cell_of_block P8.r3 0 (by simp)
      simp [bodyPostD, Leaves, settle, results, Try.results8, go_sem, r10, r11, r12, r13, r14, r15, r20, r21, r22, r23, r24, r25, r26, r27, r30]
      exact ⟨P8.below, .inl ⟨HMN.out, by rw [HVN.out]; rfl⟩⟩
end Go.Proofs.Ytfefmgadfklgmaa.L2
