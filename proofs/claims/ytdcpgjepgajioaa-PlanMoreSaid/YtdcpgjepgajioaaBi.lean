/- The years of a path (plain). Contracts of parts and years. No conditions beyond each theorem's own. -/
import Derived.Test.YtdcpgjepgajioaaBh
set_option linter.unusedVariables false
set_option linter.unusedSimpArgs false
set_option linter.unusedSectionVars false
set_option linter.constructorNameAsVariable false
namespace Go.Proofs.Ytdcpgjepgajioaa
open Go.RowKit

attribute [local go_sem] gw_cell gw_frozen gw_size

/-- the cellar at the beginning of year t of path i -/
def Otl.celAt (o : Otl) (i : Nat) (L : Nat → Int) (lot : Int) (room : Int → Bool) (part : Int → Int) : Nat → List Int
  | 0 => firstC o.S o.nS
  | t + 1 => lateF part (yearF o.A (o.V i t) o.nA (L t * lot) room (o.celAt i L lot room part t)).1
/-- the cellar behind the sales of year t, and the year's error -/
def Otl.yrAt (o : Otl) (i : Nat) (L : Nat → Int) (lot : Int) (room : Int → Bool) (part : Int → Int) (t : Nat) : List Int × Int :=
  yearF o.A (o.V i t) o.nA (L t * lot) room (o.celAt i L lot room part t)
theorem celAt_succ (o : Otl) (i : Nat) (L : Nat → Int) (lot : Int) (room : Int → Bool) (part : Int → Int) (t : Nat) : o.celAt i L lot room part (t + 1) = lateF part (o.yrAt i L lot room part t).1 := rfl
theorem tot_le {m : Int} : ∀ {c : List Int}, (∀ x ∈ c, x ≤ m) → tot c ≤ c.length * m
  | [], _ => by simp [tot]
  | x :: c, h => by
    have := tot_le (c := c) (fun y hy => h y (by simp [hy]))
    have h0 := h x (by simp)
    show x + tot c ≤ ((c.length + 1 : Nat) : Int) * m
    rw [show ((c.length + 1 : Nat) : Int) = (c.length : Int) + 1 by omega, Int.add_mul]
    omega
theorem first_ok {S : Nat → Int} {n : Nat} (h : ∀ i, i < n → 0 ≤ S i ∧ S i ≤ 1099511627776) : NonNeg (firstC S n) ∧ tot (firstC S n) ≤ 35184372088832 := by
  have hx : ∀ x ∈ firstC S n, 0 ≤ x ∧ x ≤ 1099511627776 := fun x hx => by
    simp only [firstC, List.mem_map, List.mem_range] at hx
    obtain ⟨i, _, rfl⟩ := hx
    by_cases hi : i < n
    · rw [if_pos hi]; exact h i hi
    · rw [if_neg hi]; omega
  refine ⟨fun x h => (hx x h).1, ?_⟩
  have := tot_le (fun x h => (hx x h).2)
  rw [firstC_len] at this
  omega
/-- what a path asks for -/
structure RunOk (o : Otl) (i m : Nat) (L : Nat → Int) (lot : Int) (part : Int → Int) : Prop where
  B : outB o = true
  hi : i < o.nP
  hm : m = o.pN i
  hL : ∀ t, t < m → 0 ≤ L t ∧ L t ≤ 8
  hlot : 1 ≤ lot ∧ lot ≤ 137438953472
  hpart : ∀ x, 0 ≤ x → 0 ≤ part x ∧ part x ≤ x
section
variable {o : Otl} {i m : Nat} {L : Nat → Int} {lot : Int} {room : Int → Bool} {part : Int → Int}
theorem RunOk.m10 (h : RunOk o i m L lot part) : m ≤ 10 := by
  have := (outB_t h.B).2.2.2.2.2.2.2.2.2 i h.hi
  rw [h.hm]; exact this.2.1
theorem RunOk.vals (h : RunOk o i m L lot part) {t : Nat} (ht : t < m) : o.yN i t = o.nA ∧ ∀ p, p < o.nA → 0 ≤ o.V i t p ∧ o.V i t p ≤ 1099511627776 := by
  have := ((outB_t h.B).2.2.2.2.2.2.2.2.2 i h.hi).2.2 t (by rw [← h.hm]; exact ht)
  exact ⟨this.1, fun p hp => this.2 p (by omega)⟩
theorem RunOk.laid (h : RunOk o i m L lot part) {t : Nat} (ht : t < m) : 0 ≤ L t * lot ∧ L t * lot ≤ 1099511627776 := by
  have a := h.hL t ht
  have b := h.hlot
  exact ⟨Int.mul_nonneg a.1 (by omega), Int.le_trans (Int.mul_le_mul_of_nonneg_right a.2 (by omega)) (by omega)⟩
theorem celAt_ok (h : RunOk o i m L lot part) : ∀ t : Nat, t ≤ m → NonNeg (o.celAt i L lot room part t) ∧ (o.celAt i L lot room part t).length = 32 ∧ tot (o.celAt i L lot room part t) ≤ 35184372088832 + t * 1099511627776
  | 0, _ => by
    obtain ⟨a, b⟩ := first_ok (outB_t h.B).2.1
    exact ⟨a, firstC_len _ _, by show tot (firstC o.S o.nS) ≤ _; omega⟩
  | t + 1, ht => by
    obtain ⟨a, b, c⟩ := celAt_ok h t (by omega)
    have v := h.vals (t := t) (by omega)
    have l := h.laid (t := t) (by omega)
    obtain ⟨p, q, r⟩ := yearF_ok (A := o.A) (V := o.V i t) (n := o.nA) (laid := L t * lot) (room := room) a b (fun p hp => (v.2 p hp).1) l.1
    obtain ⟨x, z⟩ := lateF_ok (p := part) (e := 0) r (fun j => (h.hpart _ (p.getD j)).1) (fun j => by have := (h.hpart _ (p.getD j)).2; omega)
    refine ⟨x, lateF_len _ _, ?_⟩
    show tot (lateF part (yearF o.A (o.V i t) o.nA (L t * lot) room (o.celAt i L lot room part t)).1) ≤ _
    omega
theorem yrAt_ok (h : RunOk o i m L lot part) {t : Nat} (ht : t < m) : NonNeg (o.yrAt i L lot room part t).1 ∧ (o.yrAt i L lot room part t).1.length = 32 ∧ tot (o.yrAt i L lot room part t).1 ≤ 70368744177664 := by
  obtain ⟨a, b, c⟩ := celAt_ok (room := room) h t (by omega)
  have v := h.vals (t := t) (by omega)
  have l := h.laid (t := t) (by omega)
  obtain ⟨p, q, r⟩ := yearF_ok (A := o.A) (V := o.V i t) (n := o.nA) (laid := L t * lot) (room := room) a b (fun p hp => (v.2 p hp).1) l.1
  have := h.m10
  exact ⟨p, r, by show tot (yearF o.A (o.V i t) o.nA (L t * lot) room (o.celAt i L lot room part t)).1 ≤ _; omega⟩
end

set_option maxRecDepth 100000 in
set_option maxHeartbeats 4000000 in
theorem parts_any (o : Otl) (w : World) :
    Calls Try.prog 34 #[o.val] w fun e w' => ∃ bo, e = .returned (.tuple #[.func (.func 53) #[] #[.pointer (some ⟨bo, 0, none⟩)], .func (.func 54) #[] #[.pointer (some ⟨bo, 0, none⟩)]]) ∧ w.heap.size ≤ bo ∧ w'.heap[bo]? = some (.cells o.cells 27 (0, 0)) ∧ Below w.heap.size w w' := by
  have hmf : ∀ (fn : Fn) (first cap : Array Value) (w : World), (Instr.makeFunc fn first cap).run Try.prog w = .ok (.func fn first cap) w := fun _ _ _ _ => rfl
  unfold Otl.val
  go_enter Try.func34, Try.ntmps34
  go_wp2_with fail
  go_ret2
  exact ⟨_, rfl, Nat.le_refl _, alloc_at rfl, below_alloc _ _⟩

set_option maxRecDepth 100000 in
set_option maxHeartbeats 4000000 in
theorem years_any (o : Otl) (y : Lyg) (aL : Option Addr) (m cL : Nat) (i : Int) (gp gr : Nat) (lp lr : Array Value) (w : World) :
    Calls Try.prog 35 #[o.val, y.val, .slice aL m cL, .int .i64 i, .func (.func gp) #[] lp, .func (.func gr) #[] lr] w fun e w' => ∃ bo bl bp by' br bt, e = .returned (.func (.func 55) #[] #[.pointer (some ⟨bo, 0, none⟩), .pointer (some ⟨bl, 0, none⟩), .pointer (some ⟨bp, 0, none⟩), .pointer (some ⟨by', 0, none⟩), .pointer (some ⟨br, 0, none⟩), .pointer (some ⟨bt, 0, none⟩)]) ∧
      (w.heap.size ≤ bo ∧ w.heap.size ≤ bl ∧ w.heap.size ≤ bp ∧ w.heap.size ≤ by' ∧ w.heap.size ≤ br ∧ w.heap.size ≤ bt) ∧ w'.heap[bo]? = some (.cells o.cells 27 (0, 0)) ∧ w'.heap[bl]? = some (.cells #[.slice aL m cL] 22 (0, 0)) ∧ w'.heap[bp]? = some (.cells #[.int .i64 i] 3 (0, 0)) ∧ w'.heap[by']? = some (.cells y.cells 29 (0, 0)) ∧
      w'.heap[br]? = some (.cells #[.func (.func gr) #[] lr] 72 (0, 0)) ∧ w'.heap[bt]? = some (.cells #[.func (.func gp) #[] lp] 66 (0, 0)) ∧ Below w.heap.size w w' := by
  have hmf : ∀ (fn : Fn) (first cap : Array Value) (w : World), (Instr.makeFunc fn first cap).run Try.prog w = .ok (.func fn first cap) w := fun _ _ _ _ => rfl
  unfold Otl.val Lyg.val
  obtain ⟨W1, hW1⟩ : ∃ W1, (((((w.alloc (.cells #[.slice o.aS o.nS o.cS, .int .i64 o.kl, .int .i64 o.kh, .slice o.aA o.nA o.cA, .slice o.aP o.nP o.cP] 27)).alloc (.cells #[.slice y.aR y.nR y.cR, .slice y.aM y.nM y.cM, .int .i64 y.lot, .int .i64 y.room] 29)).alloc (.cells #[.slice aL m cL] 22)).alloc (.cells #[.int .i64 i] 3)).alloc (.cells #[.func (.func gp) #[] lp] 66)).alloc (.cells #[.func (.func gr) #[] lr] 72) = W1 := ⟨_, rfl⟩
  have hBc : Below w.heap.size w W1 := by rw [← hW1]; exact (((((below_alloc _ _).alloc (by simp) _).alloc (by simp <;> omega) _).alloc (by simp <;> omega) _).alloc (by simp <;> omega) _).alloc (by simp <;> omega) _
  have zc0 : W1.heap[w.heap.size]? = some (.cells #[.slice o.aS o.nS o.cS, .int .i64 o.kl, .int .i64 o.kh, .slice o.aA o.nA o.cA, .slice o.aP o.nP o.cP] 27 (0, 0)) := by rw [← hW1]; exact alloc_keep (alloc_keep (alloc_keep (alloc_keep (alloc_keep (alloc_at rfl)))))
  have zc1 : W1.heap[w.heap.size + 1]? = some (.cells #[.slice y.aR y.nR y.cR, .slice y.aM y.nM y.cM, .int .i64 y.lot, .int .i64 y.room] 29 (0, 0)) := by rw [← hW1]; exact alloc_keep (alloc_keep (alloc_keep (alloc_keep (alloc_at (by simp)))))
  have zc2 : W1.heap[w.heap.size + 1 + 1]? = some (.cells #[.slice aL m cL] 22 (0, 0)) := by rw [← hW1]; exact alloc_keep (alloc_keep (alloc_keep (alloc_at (by simp <;> omega))))
  have zc3 : W1.heap[w.heap.size + 1 + 1 + 1]? = some (.cells #[.int .i64 i] 3 (0, 0)) := by rw [← hW1]; exact alloc_keep (alloc_keep (alloc_at (by simp <;> omega)))
  have zc4 : W1.heap[w.heap.size + 1 + 1 + 1 + 1]? = some (.cells #[.func (.func gp) #[] lp] 66 (0, 0)) := by rw [← hW1]; exact alloc_keep (alloc_at (by simp <;> omega))
  have zc5 : W1.heap[w.heap.size + 1 + 1 + 1 + 1 + 1]? = some (.cells #[.func (.func gr) #[] lr] 72 (0, 0)) := by rw [← hW1]; exact alloc_at (by simp <;> omega)
  have c00 : W1.cell? ⟨w.heap.size, 0, none⟩ = some (.slice o.aS o.nS o.cS) := cell_of_block zc0 0 (by simp)
  have c01 : W1.cell? ⟨w.heap.size, 1, none⟩ = some (.int .i64 o.kl) := cell_of_block zc0 1 (by simp)
  have c02 : W1.cell? ⟨w.heap.size, 2, none⟩ = some (.int .i64 o.kh) := cell_of_block zc0 2 (by simp)
  have c03 : W1.cell? ⟨w.heap.size, 3, none⟩ = some (.slice o.aA o.nA o.cA) := cell_of_block zc0 3 (by simp)
  have c04 : W1.cell? ⟨w.heap.size, 4, none⟩ = some (.slice o.aP o.nP o.cP) := cell_of_block zc0 4 (by simp)
  have c10 : W1.cell? ⟨w.heap.size + 1, 0, none⟩ = some (.slice y.aR y.nR y.cR) := cell_of_block zc1 0 (by simp)
  have c11 : W1.cell? ⟨w.heap.size + 1, 1, none⟩ = some (.slice y.aM y.nM y.cM) := cell_of_block zc1 1 (by simp)
  have c12 : W1.cell? ⟨w.heap.size + 1, 2, none⟩ = some (.int .i64 y.lot) := cell_of_block zc1 2 (by simp)
  have c13 : W1.cell? ⟨w.heap.size + 1, 3, none⟩ = some (.int .i64 y.room) := cell_of_block zc1 3 (by simp)
  have c20 : W1.cell? ⟨w.heap.size + 1 + 1, 0, none⟩ = some (.slice aL m cL) := cell_of_block zc2 0 (by simp)
  have c30 : W1.cell? ⟨w.heap.size + 1 + 1 + 1, 0, none⟩ = some (.int .i64 i) := cell_of_block zc3 0 (by simp)
  have c40 : W1.cell? ⟨w.heap.size + 1 + 1 + 1 + 1, 0, none⟩ = some (.func (.func gp) #[] lp) := cell_of_block zc4 0 (by simp)
  have c50 : W1.cell? ⟨w.heap.size + 1 + 1 + 1 + 1 + 1, 0, none⟩ = some (.func (.func gr) #[] lr) := cell_of_block zc5 0 (by simp)
  have lc0 := (Array.getElem?_eq_some_iff.1 zc0).1
  have lc1 := (Array.getElem?_eq_some_iff.1 zc1).1
  have lc2 := (Array.getElem?_eq_some_iff.1 zc2).1
  have lc3 := (Array.getElem?_eq_some_iff.1 zc3).1
  have lc4 := (Array.getElem?_eq_some_iff.1 zc4).1
  have lc5 := (Array.getElem?_eq_some_iff.1 zc5).1
  have Zc0 := Lib.hid zc0
  have Zc1 := Lib.hid zc1
  have Zc2 := Lib.hid zc2
  have Zc3 := Lib.hid zc3
  have Zc4 := Lib.hid zc4
  have Zc5 := Lib.hid zc5
  clear zc0 zc1 zc2 zc3 zc4 zc5
  have HBc := Lib.hid hBc; clear hBc
  have HWc := Lib.hid hW1; clear hW1
  go_enter Try.func35, Try.ntmps35
  go_upto_region 1 with (fail)
  rw [HWc.out]
  go_wp2_with fail
  go_ret
  exact ⟨_, _, _, _, _, _, rfl, ⟨by omega, by omega, by omega, by omega, by omega, by omega⟩, Zc0.out, Zc2.out, Zc3.out, Zc1.out, Zc5.out, Zc4.out, HBc.out⟩
end Go.Proofs.Ytdcpgjepgajioaa
