/- Outlooks, what may be laid down. Contract of isOutlook. No conditions beyond each theorem's own. -/
import Derived.Test.YtdcpgjepgajioaaBa
set_option linter.unusedVariables false
set_option linter.unusedSimpArgs false
set_option linter.unusedSectionVars false
set_option linter.constructorNameAsVariable false
namespace Go.Proofs.Ytdcpgjepgajioaa
open Go.RowKit

attribute [local go_sem] gw_cell gw_frozen gw_size

/-- an outlook -/
structure Otl where
  aS : Option Addr
  nS : Nat
  cS : Nat
  S : Nat → Int
  kl : Int
  kh : Int
  aA : Option Addr
  nA : Nat
  cA : Nat
  A : Nat → Int
  aP : Option Addr
  nP : Nat
  cP : Nat
  pA : Nat → Option Addr
  pN : Nat → Nat
  pC : Nat → Nat
  yA : Nat → Nat → Option Addr
  yN : Nat → Nat → Nat
  yC : Nat → Nat → Nat
  V : Nat → Nat → Nat → Int
def Otl.val (o : Otl) : Value := .agg #[.slice o.aS o.nS o.cS, .int .i64 o.kl, .int .i64 o.kh, .slice o.aA o.nA o.cA, .slice o.aP o.nP o.cP]
def Otl.cells (o : Otl) : Array Value := #[.slice o.aS o.nS o.cS, .int .i64 o.kl, .int .i64 o.kh, .slice o.aA o.nA o.cA, .slice o.aP o.nP o.cP]
structure Otl.In (o : Otl) (w : World) : Prop where
  iS : IntsAt w o.aS o.nS o.S
  iA : IntsAt w o.aA o.nA o.A
  iP : CellsAt w o.aP o.nP fun i => .slice (o.pA i) (o.pN i) (o.pC i)
  iY : ∀ i, i < o.nP → CellsAt w (o.pA i) (o.pN i) fun t => .slice (o.yA i t) (o.yN i t) (o.yC i t)
  iV : ∀ i, i < o.nP → ∀ t, t < o.pN i → IntsAt w (o.yA i t) (o.yN i t) (o.V i t)
theorem Otl.In.below {o : Otl} {w w' : World} (h : o.In w) (hb : Below w.heap.size w w') : o.In w' :=
  ⟨h.iS.below hb, h.iA.below hb, h.iP.below hb, fun i hi => (h.iY i hi).below hb, fun i hi t ht => (h.iV i hi t ht).below hb⟩
structure Otl.Fits (o : Otl) : Prop where
  nS : o.nS ≤ 9223372036854775807
  nA : o.nA ≤ 9223372036854775807
  nP : o.nP ≤ 9223372036854775807
  pN : ∀ i, i < o.nP → o.pN i ≤ 9223372036854775807
  yN : ∀ i, i < o.nP → ∀ t, t < o.pN i → o.yN i t ≤ 9223372036854775807
/-- a year of a path is as it should be -/
def Otl.yearB (o : Otl) (i t : Nat) : Bool := decide (o.yN i t = o.nA) && allB (o.yN i t) fun p => inB (o.V i t p) 0 1099511627776
/-- a path is as it should be -/
def Otl.pathB (o : Otl) (i : Nat) : Bool := decide (o.pN i = o.pN 0) && (decide (o.pN i ≤ 10) && allB (o.pN i) (o.yearB i))
/-- an outlook is valid -/
def outB (o : Otl) : Bool :=
  decide (o.nS ≤ 32) && (allB o.nS (fun i => inB (o.S i) 0 1099511627776) && (decide (0 ≤ o.kl) && (decide (o.kl ≤ o.kh) && (decide (o.kh ≤ 10000) &&
    (allB (o.nA - 1) (fun i => decide (o.A i < o.A (i + 1))) && (decide (o.nA ≤ 4) && (allB o.nA (fun i => inB (o.A i) 0 31) && (inB o.nP 1 8 && allB o.nP o.pathB))))))))
/-- what may be laid down -/
structure Lyg where
  aR : Option Addr
  nR : Nat
  cR : Nat
  R : Nat → Int
  aM : Option Addr
  nM : Nat
  cM : Nat
  M : Nat → Int
  lot : Int
  room : Int
def Lyg.val (y : Lyg) : Value := .agg #[.slice y.aR y.nR y.cR, .slice y.aM y.nM y.cM, .int .i64 y.lot, .int .i64 y.room]
def Lyg.cells (y : Lyg) : Array Value := #[.slice y.aR y.nR y.cR, .slice y.aM y.nM y.cM, .int .i64 y.lot, .int .i64 y.room]
structure Lyg.In (y : Lyg) (w : World) : Prop where
  iR : IntsAt w y.aR y.nR y.R
  iM : IntsAt w y.aM y.nM y.M
theorem Lyg.In.below {y : Lyg} {w w' : World} (h : y.In w) (hb : Below w.heap.size w w') : y.In w' := ⟨h.iR.below hb, h.iM.below hb⟩
structure Lyg.Fits (y : Lyg) : Prop where
  nR : y.nR ≤ 9223372036854775807
  nM : y.nM ≤ 9223372036854775807
def layB (o : Otl) (y : Lyg) : Bool :=
  decide (y.nR = o.pN 0) && (decide (y.nM = o.pN 0) && (allB y.nR (fun i => inB (y.R i) 0 1073741824) && (allB y.nM (fun i => inB (y.M i) 0 8) && (inB y.lot 1 137438953472 && inB y.room 0 1099511627776))))
def lotsB (y : Lyg) (n : Nat) (L : Nat → Int) : Bool := decide (n = y.nM) && allB n fun t => inB (L t) 0 (y.M t)

theorem outB_t {o : Otl} (h : outB o = true) : o.nS ≤ 32 ∧ (∀ i, i < o.nS → 0 ≤ o.S i ∧ o.S i ≤ 1099511627776) ∧ 0 ≤ o.kl ∧ o.kl ≤ o.kh ∧ o.kh ≤ 10000 ∧ (∀ i, i + 1 < o.nA → o.A i < o.A (i + 1)) ∧ o.nA ≤ 4 ∧ (∀ i, i < o.nA → 0 ≤ o.A i ∧ o.A i ≤ 31) ∧ (1 ≤ o.nP ∧ o.nP ≤ 8) ∧
    ∀ i, i < o.nP → o.pN i = o.pN 0 ∧ o.pN i ≤ 10 ∧ ∀ t, t < o.pN i → o.yN i t = o.nA ∧ ∀ p, p < o.yN i t → 0 ≤ o.V i t p ∧ o.V i t p ≤ 1099511627776 := by
  simp only [outB, Bool.and_eq_true, decide_eq_true_eq] at h
  obtain ⟨h1, h2, h3, h4, h5, h6, h7, h8, h9, h10⟩ := h
  refine ⟨h1, fun i hi => inB_t.1 (allB_t.1 h2 i hi), h3, h4, h5, fun i hi => by simpa using allB_t.1 h6 i (by omega), h7, fun i hi => inB_t.1 (allB_t.1 h8 i hi), by have := inB_t.1 h9; omega, fun i hi => ?_⟩
  have := allB_t.1 h10 i hi
  simp only [Otl.pathB, Bool.and_eq_true, decide_eq_true_eq] at this
  refine ⟨this.1, this.2.1, fun t ht => ?_⟩
  have := allB_t.1 this.2.2 t ht
  simp only [Otl.yearB, Bool.and_eq_true, decide_eq_true_eq] at this
  exact ⟨this.1, fun p hp => inB_t.1 (allB_t.1 this.2 p hp)⟩
theorem layB_t {o : Otl} {y : Lyg} (h : layB o y = true) : y.nR = o.pN 0 ∧ y.nM = o.pN 0 ∧ (∀ i, i < y.nR → 0 ≤ y.R i ∧ y.R i ≤ 1073741824) ∧ (∀ i, i < y.nM → 0 ≤ y.M i ∧ y.M i ≤ 8) ∧ (1 ≤ y.lot ∧ y.lot ≤ 137438953472) ∧ 0 ≤ y.room ∧ y.room ≤ 1099511627776 := by
  simp only [layB, Bool.and_eq_true, decide_eq_true_eq] at h
  obtain ⟨h1, h2, h3, h4, h5, h6⟩ := h
  exact ⟨h1, h2, fun i hi => inB_t.1 (allB_t.1 h3 i hi), fun i hi => inB_t.1 (allB_t.1 h4 i hi), inB_t.1 h5, inB_t.1 h6⟩
theorem lotsB_t {y : Lyg} {n : Nat} {L : Nat → Int} (h : lotsB y n L = true) : n = y.nM ∧ ∀ t, t < n → 0 ≤ L t ∧ L t ≤ y.M t := by
  simp only [lotsB, Bool.and_eq_true, decide_eq_true_eq] at h
  exact ⟨h.1, fun i hi => inB_t.1 (allB_t.1 h.2 i hi)⟩
theorem of_and {a b c : Bool} (ha : a = true) (h : b = c) : (a && b) = c := by rw [ha, h]; rfl
theorem no_and {a b : Bool} (ha : a = false) : (a && b) = false := by rw [ha]; rfl

set_option maxHeartbeats 1000000 in
theorem year1_any (o : Otl) (i t : Nat) (bo : Nat) (w : World) (hi : i < o.nP) (ht : t < o.pN i) (hI : o.In w) (hf : o.Fits) (hz : w.heap[bo]? = some (.cells o.cells 27 (0, 0))) :
    Calls Try.prog 52 #[.slice (o.yA i t) (o.yN i t) (o.yC i t), .pointer (some ⟨bo, 0, none⟩)] w fun e w' => e = .returned (.bool (o.yearB i t)) ∧ Below w.heap.size w w' := by
  have c3 : w.cell? ⟨bo, 3, none⟩ = some (.slice o.aA o.nA o.cA) := cell_of_block hz 3 (by simp [Otl.cells])
  have lo := (Array.getElem?_eq_some_iff.1 hz).1
  have fy := hf.yN i hi t ht
  have fa := hf.nA
  have hV := Lib.hid (hI.iV i hi t ht)
  have HZ := Lib.hid hz; clear hz hI hf
  unfold Otl.yearB
  by_cases h1 : o.yN i t = o.nA
  · rw [of_and (by simpa using h1) rfl]
    have d3 : ((o.yN i t : Int) == (o.nA : Int)) = true := by simp; omega
    have HE := Lib.hid h1; clear h1
    go_enter Try.func52, Try.ntmps52
    go_wp2_with fail
    refine (upTo_any _ _).mono ?_
    rintro e w1 ⟨bb, rfl, hbx, hb⟩
    have HB := Lib.hid hb
    have HU := Lib.hid (allUp (o.yA i t) (o.yN i t) (o.yC i t) (o.V i t) 1099511627776 bb w1 fy (hV.out.below hb) hbx)
    clear hb hbx
    go_wp2_with fail
    refine HU.out.mono ?_
    rintro e w2 ⟨rfl, hb⟩
    have HB2 := Lib.hid (thru hb HB.out); clear hb
    go_wp2_with fail
    go_ret
    exact ⟨rfl, HB2.out⟩
  · rw [no_and (by simpa using h1)]
    have d1 : decide (o.yN i t = o.nA) = false := by simpa using h1
    have d2 : decide ((o.yN i t : Int) = (o.nA : Int)) = false := by simp; omega
    have d3 : ((o.yN i t : Int) == (o.nA : Int)) = false := by simp; omega
    go_enter Try.func52, Try.ntmps52
    go_wp2_with fail
    go_ret
    exact ⟨rfl, Below.refl _ _⟩

set_option maxHeartbeats 1000000 in
theorem path1_any (o : Otl) (i : Nat) (bo : Nat) (w : World) (hi : i < o.nP) (hI : o.In w) (hf : o.Fits) (hz : w.heap[bo]? = some (.cells o.cells 27 (0, 0))) :
    Calls Try.prog 50 #[.slice (o.pA i) (o.pN i) (o.pC i), .pointer (some ⟨bo, 0, none⟩)] w fun e w' => e = .returned (.bool (o.pathB i)) ∧ Below w.heap.size w w' := by
  have hmf : ∀ (fn : Fn) (first cap : Array Value) (w : World), (Instr.makeFunc fn first cap).run Try.prog w = .ok (.func fn first cap) w := fun _ _ _ _ => rfl
  have c4 : w.cell? ⟨bo, 4, none⟩ = some (.slice o.aP o.nP o.cP) := cell_of_block hz 4 (by simp [Otl.cells])
  have lo := (Array.getElem?_eq_some_iff.1 hz).1
  have fp := hf.pN i hi
  have fp0 := hf.pN 0 (by omega)
  have fn := hf.nP
  have hAl := Lib.hid (allR 52 #[.pointer (some ⟨bo, 0, none⟩)] (fun _ _ => rfl) (o.yearB i) (o.pA i) (o.pN i) (o.pC i) (o.yA i) (o.yN i) (o.yC i) w fp (hI.iY i hi)
    (fun W t hb ht => year1_any o i t bo W hi ht (hI.below hb) hf ((hb.block bo lo).trans hz)))
  rcases hI.iP with h0 | ⟨b, off, ea, lb, hc⟩
  · omega
  have q0 := hc 0 (by omega)
  simp only [Nat.add_zero] at q0
  rw [ea] at c4
  have lt0 : 0 < o.nP := by omega
  clear hc hI hf hz ea
  unfold Otl.pathB
  by_cases h1 : o.pN i = o.pN 0
  · rw [of_and (by simpa using h1) rfl]
    have HE := Lib.hid h1
    by_cases h2 : o.pN i ≤ 10
    · rw [of_and (by simpa using h2) rfl]
      have d3 : ((o.pN i : Int) == (o.pN 0 : Int)) = true := by simp; omega
      have d1 : decide (o.pN i = o.pN 0) = true := by simpa using h1
      have d2 : decide (o.pN i ≤ 10) = true := by simpa using h2
      clear h1
      go_enter Try.func50, Try.ntmps50
      go_wp2_with fail
      refine hAl.out.mono ?_
      rintro e w2 ⟨rfl, hb⟩
      have HB2 := Lib.hid hb; clear hb
      go_wp2_with fail
      go_ret
      exact ⟨rfl, HB2.out⟩
    · rw [no_and (by simpa using h2)]
      have d3 : ((o.pN i : Int) == (o.pN 0 : Int)) = true := by simp; omega
      have d1 : decide (o.pN i = o.pN 0) = true := by simpa using h1
      have d2 : decide (o.pN i ≤ 10) = false := by simpa using h2
      have d4 : decide ((o.pN i : Int) ≤ 10) = false := by simp; omega
      clear h1
      go_enter Try.func50, Try.ntmps50
      go_wp2_with fail
      go_ret
      exact ⟨rfl, Below.refl _ _⟩
  · rw [no_and (by simpa using h1)]
    have d1 : decide (o.pN i = o.pN 0) = false := by simpa using h1
    have d3 : ((o.pN i : Int) == (o.pN 0 : Int)) = false := by simp; omega
    go_enter Try.func50, Try.ntmps50
    go_wp2_with fail
    go_ret
    exact ⟨rfl, Below.refl _ _⟩

set_option maxRecDepth 100000 in
set_option maxHeartbeats 4000000 in
theorem isOutlook_any (o : Otl) (w : World) (hI : o.In w) (hf : o.Fits) :
    Calls Try.prog 30 #[o.val] w fun e w' => e = .returned (.bool (outB o)) ∧ Below w.heap.size w w' := by
  have hmf : ∀ (fn : Fn) (first cap : Array Value) (w : World), (Instr.makeFunc fn first cap).run Try.prog w = .ok (.func fn first cap) w := fun _ _ _ _ => rfl
  unfold Otl.val
  obtain ⟨W1, hW1⟩ : ∃ W1, w.alloc (.cells #[.slice o.aS o.nS o.cS, .int .i64 o.kl, .int .i64 o.kh, .slice o.aA o.nA o.cA, .slice o.aP o.nP o.cP] 27) = W1 := ⟨_, rfl⟩
  have hBc : Below w.heap.size w W1 := by rw [← hW1]; exact below_alloc _ _
  have zc0 : W1.heap[w.heap.size]? = some (.cells #[.slice o.aS o.nS o.cS, .int .i64 o.kl, .int .i64 o.kh, .slice o.aA o.nA o.cA, .slice o.aP o.nP o.cP] 27 (0, 0)) := by rw [← hW1]; exact alloc_at rfl
  have c00 : W1.cell? ⟨w.heap.size, 0, none⟩ = some (.slice o.aS o.nS o.cS) := cell_of_block zc0 0 (by simp)
  have c01 : W1.cell? ⟨w.heap.size, 1, none⟩ = some (.int .i64 o.kl) := cell_of_block zc0 1 (by simp)
  have c02 : W1.cell? ⟨w.heap.size, 2, none⟩ = some (.int .i64 o.kh) := cell_of_block zc0 2 (by simp)
  have c03 : W1.cell? ⟨w.heap.size, 3, none⟩ = some (.slice o.aA o.nA o.cA) := cell_of_block zc0 3 (by simp)
  have c04 : W1.cell? ⟨w.heap.size, 4, none⟩ = some (.slice o.aP o.nP o.cP) := cell_of_block zc0 4 (by simp)
  have lc0 := (Array.getElem?_eq_some_iff.1 zc0).1
  have Zc0 := Lib.hid zc0
  clear zc0
  have HBc := Lib.hid hBc; clear hBc
  have HWc := Lib.hid hW1; clear hW1
  have l0 := lc0
  have fS := hf.nS
  have fA := hf.nA
  have fP := hf.nP
  have HF := Lib.hid hf
  have HI := Lib.hid (hI.below HBc.out)
  clear hI hf
  unfold outB
  by_cases h0 : o.nS ≤ 32
  rotate_left
  · rw [no_and (by simpa using h0)]
    have d0 : decide ((32 : Int) < (o.nS : Int)) = true := by simp; omega
    go_enter Try.func30, Try.ntmps30
    go_upto_region 1 with (fail)
    rw [HWc.out]
    refine wp_region_steps (fun w' => ∃ x, w' = gw W1 x) [([0, 1], 2), ([3, 4, 5, 6], 7), ([], 8)] [9, 10, 11, 12, 13, 14, 15, 16, 17, 18, 19, 20, 21, 22, 23, 24, 25, 26, 27, 28, 29, 30, 31] [] (by kernel_rfl) (by kernel_rfl) ?_
    rintro _ ⟨x0, rfl⟩
    refine ⟨⟨_, rfl⟩, ?_⟩
    refine wpSeg_cons ?_
    simp only [pickL, List.getElem?_cons_zero, List.getElem?_cons_succ]
    repeat (go_big_quiet_step (fail))
    refine wpQuiet_nil ?_
    go_wp2_with fail
    refine contQ_now ⟨⟨_, rfl⟩, ?_⟩
    refine wpSeg_cons ?_
    simp only [pickL, List.getElem?_cons_zero, List.getElem?_cons_succ]
    repeat (go_big_quiet_step (fail))
    refine wpQuiet_nil ?_
    go_wp2_with fail
    refine contQ_now ⟨⟨_, rfl⟩, ?_⟩
    refine wpSeg_cons ?_
    simp only [pickL, List.getElem?_cons_zero, List.getElem?_cons_succ]
    repeat (go_big_quiet_step (fail))
    refine wpQuiet_nil ?_
    go_wp2_with fail
    refine contQ_now ⟨⟨_, rfl⟩, ?_⟩
    refine wpSeg_nil ?_
    simp only [pickL, List.getElem?_cons_zero, List.getElem?_cons_succ]
    repeat (go_big_quiet_step (fail))
    refine wpQuiet_nil ?_
    refine contN_nil ?_
    go_wp2_with fail
    go_ret
    exact ⟨rfl, HBc.out.gw x0⟩
  rw [of_and (by simpa using h0) rfl]
  have d0 : decide ((32 : Int) < (o.nS : Int)) = false := by simp; omega
  cases e1 : allB o.nS (fun i => inB (o.S i) 0 1099511627776)
  · rw [no_and rfl]
    have HE1 := Lib.hid e1; clear e1
    go_enter Try.func30, Try.ntmps30
    go_upto_region 1 with (fail)
    rw [HWc.out]
    refine wp_region_steps (fun w' => ∃ x, w' = gw W1 x) [([0, 1], 2), ([3, 4, 5, 6], 7), ([], 8)] [9, 10, 11, 12, 13, 14, 15, 16, 17, 18, 19, 20, 21, 22, 23, 24, 25, 26, 27, 28, 29, 30, 31] [] (by kernel_rfl) (by kernel_rfl) ?_
    rintro _ ⟨x0, rfl⟩
    refine ⟨⟨_, rfl⟩, ?_⟩
    refine wpSeg_cons ?_
    simp only [pickL, List.getElem?_cons_zero, List.getElem?_cons_succ]
    repeat (go_big_quiet_step (fail))
    refine wpQuiet_nil ?_
    go_wp2_with fail
    refine contQ_now ⟨⟨_, rfl⟩, ?_⟩
    refine wpSeg_cons ?_
    simp only [pickL, List.getElem?_cons_zero, List.getElem?_cons_succ]
    repeat (go_big_quiet_step (fail))
    refine wpQuiet_nil ?_
    go_wp2_with fail
    rename_i KK hKK
    refine (upTo_any _ _).mono ?_
    rintro e w1 ⟨bb, rfl, hbx, hb⟩
    have HU := Lib.hid (allUp o.aS o.nS o.cS o.S 1099511627776 bb w1 (by omega) ((HI.out.iS).below (thru hb (below_gw W1 x0))) hbx)
    rw [HE1.out] at HU
    obtain ⟨x1, hx1⟩ := gw_of_below (thru hb (below_gw W1 x0))
    clear hbx hb
    subst hx1
    refine hKK _ _ (contQ_nil ⟨⟨_, rfl⟩, ?_⟩)
    clear hKK KK
    refine wpSeg_cons ?_
    simp only [pickL, List.getElem?_cons_zero, List.getElem?_cons_succ]
    repeat (go_big_quiet_step (fail))
    refine wpQuiet_nil ?_
    go_wp2_with fail
    rename_i KK hKK
    refine HU.out.mono ?_
    rintro e w2 ⟨rfl, hb⟩
    obtain ⟨x2, hx2⟩ := gw_of_below (thru hb (below_gw W1 x1))
    clear hb
    subst hx2
    refine hKK _ _ (contQ_nil ⟨⟨_, rfl⟩, ?_⟩)
    clear hKK KK HU
    refine wpSeg_nil ?_
    simp only [pickL, List.getElem?_cons_zero, List.getElem?_cons_succ]
    repeat (go_big_quiet_step (fail))
    refine wpQuiet_nil ?_
    refine contN_nil ?_
    go_wp2_with fail
    go_ret
    exact ⟨rfl, HBc.out.gw x2⟩
  rw [of_and rfl rfl]
  have HE1 := Lib.hid e1; clear e1
  by_cases h2 : 0 ≤ o.kl
  rotate_left
  · rw [no_and (by simpa using h2)]
    have d2 : decide (o.kl < 0) = true := by simp; omega
    go_enter Try.func30, Try.ntmps30
    go_upto_region 1 with (fail)
    rw [HWc.out]
    refine wp_region_steps (fun w' => ∃ x, w' = gw W1 x) [([0, 1], 2), ([3, 4, 5, 6], 7), ([], 8)] [9, 10, 11, 12, 13, 14, 15, 16, 17, 18, 19, 20, 21, 22, 23, 24, 25, 26, 27, 28, 29, 30, 31] [] (by kernel_rfl) (by kernel_rfl) ?_
    rintro _ ⟨x0, rfl⟩
    refine ⟨⟨_, rfl⟩, ?_⟩
    refine wpSeg_cons ?_
    simp only [pickL, List.getElem?_cons_zero, List.getElem?_cons_succ]
    repeat (go_big_quiet_step (fail))
    refine wpQuiet_nil ?_
    go_wp2_with fail
    refine contQ_now ⟨⟨_, rfl⟩, ?_⟩
    refine wpSeg_cons ?_
    simp only [pickL, List.getElem?_cons_zero, List.getElem?_cons_succ]
    repeat (go_big_quiet_step (fail))
    refine wpQuiet_nil ?_
    go_wp2_with fail
    rename_i KK hKK
    refine (upTo_any _ _).mono ?_
    rintro e w1 ⟨bb, rfl, hbx, hb⟩
    have HU := Lib.hid (allUp o.aS o.nS o.cS o.S 1099511627776 bb w1 (by omega) ((HI.out.iS).below (thru hb (below_gw W1 x0))) hbx)
    rw [HE1.out] at HU
    obtain ⟨x1, hx1⟩ := gw_of_below (thru hb (below_gw W1 x0))
    clear hbx hb
    subst hx1
    refine hKK _ _ (contQ_nil ⟨⟨_, rfl⟩, ?_⟩)
    clear hKK KK
    refine wpSeg_cons ?_
    simp only [pickL, List.getElem?_cons_zero, List.getElem?_cons_succ]
    repeat (go_big_quiet_step (fail))
    refine wpQuiet_nil ?_
    go_wp2_with fail
    rename_i KK hKK
    refine HU.out.mono ?_
    rintro e w2 ⟨rfl, hb⟩
    obtain ⟨x2, hx2⟩ := gw_of_below (thru hb (below_gw W1 x1))
    clear hb
    subst hx2
    refine hKK _ _ (contQ_nil ⟨⟨_, rfl⟩, ?_⟩)
    clear hKK KK HU
    refine wpSeg_nil ?_
    simp only [pickL, List.getElem?_cons_zero, List.getElem?_cons_succ]
    repeat (go_big_quiet_step (fail))
    refine wpQuiet_nil ?_
    refine contN_nil ?_
    go_wp2_with fail
    go_ret
    exact ⟨rfl, HBc.out.gw x2⟩
  rw [of_and (by simpa using h2) rfl]
  have d2 : decide (o.kl < 0) = false := by simp; omega
  by_cases h3 : o.kl ≤ o.kh
  rotate_left
  · rw [no_and (by simpa using h3)]
    have d3 : decide (o.kh < o.kl) = true := by simp; omega
    go_enter Try.func30, Try.ntmps30
    go_upto_region 1 with (fail)
    rw [HWc.out]
    refine wp_region_steps (fun w' => ∃ x, w' = gw W1 x) [([0, 1], 2), ([3, 4, 5, 6], 7), ([], 8)] [9, 10, 11, 12, 13, 14, 15, 16, 17, 18, 19, 20, 21, 22, 23, 24, 25, 26, 27, 28, 29, 30, 31] [] (by kernel_rfl) (by kernel_rfl) ?_
    rintro _ ⟨x0, rfl⟩
    refine ⟨⟨_, rfl⟩, ?_⟩
    refine wpSeg_cons ?_
    simp only [pickL, List.getElem?_cons_zero, List.getElem?_cons_succ]
    repeat (go_big_quiet_step (fail))
    refine wpQuiet_nil ?_
    go_wp2_with fail
    refine contQ_now ⟨⟨_, rfl⟩, ?_⟩
    refine wpSeg_cons ?_
    simp only [pickL, List.getElem?_cons_zero, List.getElem?_cons_succ]
    repeat (go_big_quiet_step (fail))
    refine wpQuiet_nil ?_
    go_wp2_with fail
    rename_i KK hKK
    refine (upTo_any _ _).mono ?_
    rintro e w1 ⟨bb, rfl, hbx, hb⟩
    have HU := Lib.hid (allUp o.aS o.nS o.cS o.S 1099511627776 bb w1 (by omega) ((HI.out.iS).below (thru hb (below_gw W1 x0))) hbx)
    rw [HE1.out] at HU
    obtain ⟨x1, hx1⟩ := gw_of_below (thru hb (below_gw W1 x0))
    clear hbx hb
    subst hx1
    refine hKK _ _ (contQ_nil ⟨⟨_, rfl⟩, ?_⟩)
    clear hKK KK
    refine wpSeg_cons ?_
    simp only [pickL, List.getElem?_cons_zero, List.getElem?_cons_succ]
    repeat (go_big_quiet_step (fail))
    refine wpQuiet_nil ?_
    go_wp2_with fail
    rename_i KK hKK
    refine HU.out.mono ?_
    rintro e w2 ⟨rfl, hb⟩
    obtain ⟨x2, hx2⟩ := gw_of_below (thru hb (below_gw W1 x1))
    clear hb
    subst hx2
    refine hKK _ _ (contQ_nil ⟨⟨_, rfl⟩, ?_⟩)
    clear hKK KK HU
    refine wpSeg_nil ?_
    simp only [pickL, List.getElem?_cons_zero, List.getElem?_cons_succ]
    repeat (go_big_quiet_step (fail))
    refine wpQuiet_nil ?_
    refine contN_nil ?_
    go_wp2_with fail
    go_ret
    exact ⟨rfl, HBc.out.gw x2⟩
  rw [of_and (by simpa using h3) rfl]
  have d3 : decide (o.kh < o.kl) = false := by simp; omega
  by_cases h4 : o.kh ≤ 10000
  rotate_left
  · rw [no_and (by simpa using h4)]
    have d4 : decide (10000 < o.kh) = true := by simp; omega
    go_enter Try.func30, Try.ntmps30
    go_upto_region 1 with (fail)
    rw [HWc.out]
    refine wp_region_steps (fun w' => ∃ x, w' = gw W1 x) [([0, 1], 2), ([3, 4, 5, 6], 7), ([], 8)] [9, 10, 11, 12, 13, 14, 15, 16, 17, 18, 19, 20, 21, 22, 23, 24, 25, 26, 27, 28, 29, 30, 31] [] (by kernel_rfl) (by kernel_rfl) ?_
    rintro _ ⟨x0, rfl⟩
    refine ⟨⟨_, rfl⟩, ?_⟩
    refine wpSeg_cons ?_
    simp only [pickL, List.getElem?_cons_zero, List.getElem?_cons_succ]
    repeat (go_big_quiet_step (fail))
    refine wpQuiet_nil ?_
    go_wp2_with fail
    refine contQ_now ⟨⟨_, rfl⟩, ?_⟩
    refine wpSeg_cons ?_
    simp only [pickL, List.getElem?_cons_zero, List.getElem?_cons_succ]
    repeat (go_big_quiet_step (fail))
    refine wpQuiet_nil ?_
    go_wp2_with fail
    rename_i KK hKK
    refine (upTo_any _ _).mono ?_
    rintro e w1 ⟨bb, rfl, hbx, hb⟩
    have HU := Lib.hid (allUp o.aS o.nS o.cS o.S 1099511627776 bb w1 (by omega) ((HI.out.iS).below (thru hb (below_gw W1 x0))) hbx)
    rw [HE1.out] at HU
    obtain ⟨x1, hx1⟩ := gw_of_below (thru hb (below_gw W1 x0))
    clear hbx hb
    subst hx1
    refine hKK _ _ (contQ_nil ⟨⟨_, rfl⟩, ?_⟩)
    clear hKK KK
    refine wpSeg_cons ?_
    simp only [pickL, List.getElem?_cons_zero, List.getElem?_cons_succ]
    repeat (go_big_quiet_step (fail))
    refine wpQuiet_nil ?_
    go_wp2_with fail
    rename_i KK hKK
    refine HU.out.mono ?_
    rintro e w2 ⟨rfl, hb⟩
    obtain ⟨x2, hx2⟩ := gw_of_below (thru hb (below_gw W1 x1))
    clear hb
    subst hx2
    refine hKK _ _ (contQ_nil ⟨⟨_, rfl⟩, ?_⟩)
    clear hKK KK HU
    refine wpSeg_nil ?_
    simp only [pickL, List.getElem?_cons_zero, List.getElem?_cons_succ]
    repeat (go_big_quiet_step (fail))
    refine wpQuiet_nil ?_
    refine contN_nil ?_
    go_wp2_with fail
    go_ret
    exact ⟨rfl, HBc.out.gw x2⟩
  rw [of_and (by simpa using h4) rfl]
  have d4 : decide (10000 < o.kh) = false := by simp; omega
  go_enter Try.func30, Try.ntmps30
  go_upto_region 1 with (fail)
  rw [HWc.out]
  refine wp_region_steps (fun w' => ∃ x, w' = gw W1 x) [([0, 1], 2), ([3, 4, 5, 6], 7), ([], 8)] [9, 10, 11, 12, 13, 14, 15, 16, 17, 18, 19, 20, 21, 22, 23, 24, 25, 26, 27, 28, 29, 30, 31] [] (by kernel_rfl) (by kernel_rfl) ?_
  rintro _ ⟨x0, rfl⟩
  refine ⟨⟨_, rfl⟩, ?_⟩
  refine wpSeg_cons ?_
  simp only [pickL, List.getElem?_cons_zero, List.getElem?_cons_succ]
  repeat (go_big_quiet_step (fail))
  refine wpQuiet_nil ?_
  go_wp2_with fail
  refine contQ_now ⟨⟨_, rfl⟩, ?_⟩
  refine wpSeg_cons ?_
  simp only [pickL, List.getElem?_cons_zero, List.getElem?_cons_succ]
  repeat (go_big_quiet_step (fail))
  refine wpQuiet_nil ?_
  go_wp2_with fail
  rename_i KK hKK
  refine (upTo_any _ _).mono ?_
  rintro e w1 ⟨bb, rfl, hbx, hb⟩
  have HU := Lib.hid (allUp o.aS o.nS o.cS o.S 1099511627776 bb w1 (by omega) ((HI.out.iS).below (thru hb (below_gw W1 x0))) hbx)
  rw [HE1.out] at HU
  obtain ⟨x1, hx1⟩ := gw_of_below (thru hb (below_gw W1 x0))
  clear hbx hb
  subst hx1
  refine hKK _ _ (contQ_nil ⟨⟨_, rfl⟩, ?_⟩)
  clear hKK KK
  refine wpSeg_cons ?_
  simp only [pickL, List.getElem?_cons_zero, List.getElem?_cons_succ]
  repeat (go_big_quiet_step (fail))
  refine wpQuiet_nil ?_
  go_wp2_with fail
  rename_i KK hKK
  refine HU.out.mono ?_
  rintro e w2 ⟨rfl, hb⟩
  obtain ⟨x2, hx2⟩ := gw_of_below (thru hb (below_gw W1 x1))
  clear hb
  subst hx2
  refine hKK _ _ (contQ_nil ⟨⟨_, rfl⟩, ?_⟩)
  clear hKK KK HU
  refine wpSeg_nil ?_
  simp only [pickL, List.getElem?_cons_zero, List.getElem?_cons_succ]
  repeat (go_big_quiet_step (fail))
  refine wpQuiet_nil ?_
  refine contN_nil ?_
  clear d0 d2 d3 d4
  go_wp2_with fail
  go_loopw [3] (fun i wr => ∃ k : Nat, k ≤ o.nA ∧ i = .int .i64 ((k : Int) + 1) ∧ Hid (∀ j, j < k → j + 1 < o.nA → o.A j < o.A (j + 1)) ∧ ∃ x, wr = gw W1 x) (fun i _ => o.nA + 1 - (intOf i).toNat)
  case atStart => exact ⟨0, Nat.zero_le _, rfl, Lib.hid (fun j hj => by omega), _, rfl⟩
  case round =>
    obtain ⟨k, hk, rfl, hall, x, rfl⟩ := hrel
    have dd : decide ((k : Int) + 1 < (o.nA : Int)) = decide (k + 1 < o.nA) := by simp; omega
    by_cases hlt : k + 1 < o.nA
    · rcases HI.out.iA with h0 | ⟨b, off, ea, lb0, hc⟩
      · omega
      have x1 := hc k (by omega)
      have x2 := hc (k + 1) hlt
      have ec3 := c03
      rw [ea] at ec3
      have hw1 : IntKind.i64.wrap ((k : Int) + 1 - 1) = (k : Int) := by rw [show (k : Int) + 1 - 1 = (k : Int) by omega]; exact IntWalk.i64_in _ (by omega)
      have hw3 : ((k : Int) + 1).toNat = k + 1 := by omega
      have hw4 : 0 ≤ (k : Int) + 1 := by omega
      have hw5 : (k : Int) + 1 < (o.nA : Int) := by omega
      clear hc ea c03 dd
      by_cases hA : o.A k < o.A (k + 1)
      · have dA : decide (o.A (k + 1) ≤ o.A k) = false := by simp; omega
        have HA := Lib.hid hA; clear hA
        go_wp2_with fail
        refine wp_region_gw2 (by kernel_rfl) (by kernel_rfl) ?_
        repeat (go_big_quiet_step (fail))
        refine wpQuiet_nil ?_
        rintro _ ⟨z, rfl⟩
        go_wp2_with fail
        go_roundw
        case rel => exact ⟨k + 1, by omega, by go_num, Lib.hid (fun j hj hj2 => by rcases (by omega : j < k ∨ j = k) with h | rfl; exact hall.out j h hj2; exact HA.out), z, rfl⟩
        case measure => simp [intOf]; omega
      · have dA : decide (o.A (k + 1) ≤ o.A k) = true := by simp; omega
        have HE6 := Lib.hid (show allB (o.nA - 1) (fun i => decide (o.A i < o.A (i + 1))) = false from allB_f (j := k) (by omega) (by simp; omega))
        clear hA
        go_wp2_with fail
        refine wp_region_gw2 (by kernel_rfl) (by kernel_rfl) ?_
        repeat (go_big_quiet_step (fail))
        refine wpQuiet_nil ?_
        rintro _ ⟨z, rfl⟩
        go_wp2_with fail
        go_ret
        exact ⟨by rw [no_and HE6.out]; rfl, HBc.out.gw z⟩
    · have HE6 := Lib.hid (show allB (o.nA - 1) (fun i => decide (o.A i < o.A (i + 1))) = true from allB_t.2 (fun i hi => by simpa using hall.out i (by omega) (by omega)))
      clear dd
      by_cases h7 : o.nA ≤ 4
      rotate_left
      · have HR7 := Lib.hid (show decide (o.nA ≤ 4) = false by simpa using h7)
        have d7 : decide ((4 : Int) < (o.nA : Int)) = true := by simp; omega
        go_wp2_with fail
        refine wp_region_steps (fun w' => ∃ x, w' = gw W1 x) [([0, 1], 2), ([3, 4, 5, 6], 7), ([], 8), ([9, 10, 11, 12, 13], 14), ([], 15)] [16, 17] [] (by kernel_rfl) (by kernel_rfl) ?_
        intro w9 h9
        obtain ⟨x0, rfl⟩ : ∃ x0, w9 = gw W1 x0 := by obtain ⟨x0, rfl⟩ := h9; exact gw_of_below (thru (below_gw _ x0) (below_gw W1 x))
        clear h9
        refine ⟨⟨_, rfl⟩, ?_⟩
        refine wpSeg_cons ?_
        simp only [pickL, List.getElem?_cons_zero, List.getElem?_cons_succ]
        repeat (go_big_quiet_step (fail))
        refine wpQuiet_nil ?_
        go_wp2_with fail
        refine contQ_now ⟨⟨_, rfl⟩, ?_⟩
        refine wpSeg_cons ?_
        simp only [pickL, List.getElem?_cons_zero, List.getElem?_cons_succ]
        repeat (go_big_quiet_step (fail))
        refine wpQuiet_nil ?_
        go_wp2_with fail
        refine contQ_now ⟨⟨_, rfl⟩, ?_⟩
        refine wpSeg_cons ?_
        simp only [pickL, List.getElem?_cons_zero, List.getElem?_cons_succ]
        repeat (go_big_quiet_step (fail))
        refine wpQuiet_nil ?_
        go_wp2_with fail
        refine contQ_now ⟨⟨_, rfl⟩, ?_⟩
        refine wpSeg_cons ?_
        simp only [pickL, List.getElem?_cons_zero, List.getElem?_cons_succ]
        repeat (go_big_quiet_step (fail))
        refine wpQuiet_nil ?_
        go_wp2_with fail
        refine contQ_now ⟨⟨_, rfl⟩, ?_⟩
        refine wpSeg_cons ?_
        simp only [pickL, List.getElem?_cons_zero, List.getElem?_cons_succ]
        repeat (go_big_quiet_step (fail))
        refine wpQuiet_nil ?_
        go_wp2_with fail
        refine contQ_now ⟨⟨_, rfl⟩, ?_⟩
        refine wpSeg_nil ?_
        simp only [pickL, List.getElem?_cons_zero, List.getElem?_cons_succ]
        repeat (go_big_quiet_step (fail))
        refine wpQuiet_nil ?_
        refine contN_nil ?_
        go_wp2_with fail
        go_ret
        exact ⟨by rw [of_and HE6.out rfl, no_and HR7.out]; rfl, HBc.out.gw x0⟩
      have HR7 := Lib.hid (show decide (o.nA ≤ 4) = true by simpa using h7)
      have d7 : decide ((4 : Int) < (o.nA : Int)) = false := by simp; omega
      cases e8 : allB o.nA (fun i => inB (o.A i) 0 31)
      · have HE8 := Lib.hid e8; clear e8
        go_wp2_with fail
        refine wp_region_steps (fun w' => ∃ x, w' = gw W1 x) [([0, 1], 2), ([3, 4, 5, 6], 7), ([], 8), ([9, 10, 11, 12, 13], 14), ([], 15)] [16, 17] [] (by kernel_rfl) (by kernel_rfl) ?_
        intro w9 h9
        obtain ⟨x0, rfl⟩ : ∃ x0, w9 = gw W1 x0 := by obtain ⟨x0, rfl⟩ := h9; exact gw_of_below (thru (below_gw _ x0) (below_gw W1 x))
        clear h9
        refine ⟨⟨_, rfl⟩, ?_⟩
        refine wpSeg_cons ?_
        simp only [pickL, List.getElem?_cons_zero, List.getElem?_cons_succ]
        repeat (go_big_quiet_step (fail))
        refine wpQuiet_nil ?_
        go_wp2_with fail
        refine contQ_now ⟨⟨_, rfl⟩, ?_⟩
        refine wpSeg_cons ?_
        simp only [pickL, List.getElem?_cons_zero, List.getElem?_cons_succ]
        repeat (go_big_quiet_step (fail))
        refine wpQuiet_nil ?_
        go_wp2_with fail
        rename_i KK hKK
        refine (upTo_any _ _).mono ?_
        rintro e w1 ⟨bb, rfl, hbx, hb⟩
        have HU := Lib.hid (allUp o.aA o.nA o.cA o.A 31 bb w1 (by omega) ((HI.out.iA).below (thru hb (below_gw W1 x0))) hbx)
        rw [HE8.out] at HU
        obtain ⟨x1, hx1⟩ := gw_of_below (thru hb (below_gw W1 x0))
        clear hbx hb
        subst hx1
        refine hKK _ _ (contQ_nil ⟨⟨_, rfl⟩, ?_⟩)
        clear hKK KK
        refine wpSeg_cons ?_
        simp only [pickL, List.getElem?_cons_zero, List.getElem?_cons_succ]
        repeat (go_big_quiet_step (fail))
        refine wpQuiet_nil ?_
        go_wp2_with fail
        rename_i KK hKK
        refine HU.out.mono ?_
        rintro e w2 ⟨rfl, hb⟩
        obtain ⟨x2, hx2⟩ := gw_of_below (thru hb (below_gw W1 x1))
        clear hb
        subst hx2
        refine hKK _ _ (contQ_nil ⟨⟨_, rfl⟩, ?_⟩)
        clear hKK KK HU
        refine wpSeg_cons ?_
        simp only [pickL, List.getElem?_cons_zero, List.getElem?_cons_succ]
        repeat (go_big_quiet_step (fail))
        refine wpQuiet_nil ?_
        go_wp2_with fail
        refine contQ_now ⟨⟨_, rfl⟩, ?_⟩
        refine wpSeg_cons ?_
        simp only [pickL, List.getElem?_cons_zero, List.getElem?_cons_succ]
        repeat (go_big_quiet_step (fail))
        refine wpQuiet_nil ?_
        go_wp2_with fail
        refine contQ_now ⟨⟨_, rfl⟩, ?_⟩
        refine wpSeg_nil ?_
        simp only [pickL, List.getElem?_cons_zero, List.getElem?_cons_succ]
        repeat (go_big_quiet_step (fail))
        refine wpQuiet_nil ?_
        refine contN_nil ?_
        go_wp2_with fail
        go_ret
        exact ⟨by rw [of_and HE6.out rfl, of_and HR7.out rfl, no_and HE8.out]; rfl, HBc.out.gw x2⟩
      have HE8 := Lib.hid e8; clear e8
      cases e9 : inB o.nP 1 8
      · have HE9 := Lib.hid e9; clear e9
        go_wp2_with fail
        refine wp_region_steps (fun w' => ∃ x, w' = gw W1 x) [([0, 1], 2), ([3, 4, 5, 6], 7), ([], 8), ([9, 10, 11, 12, 13], 14), ([], 15)] [16, 17] [] (by kernel_rfl) (by kernel_rfl) ?_
        intro w9 h9
        obtain ⟨x0, rfl⟩ : ∃ x0, w9 = gw W1 x0 := by obtain ⟨x0, rfl⟩ := h9; exact gw_of_below (thru (below_gw _ x0) (below_gw W1 x))
        clear h9
        refine ⟨⟨_, rfl⟩, ?_⟩
        refine wpSeg_cons ?_
        simp only [pickL, List.getElem?_cons_zero, List.getElem?_cons_succ]
        repeat (go_big_quiet_step (fail))
        refine wpQuiet_nil ?_
        go_wp2_with fail
        refine contQ_now ⟨⟨_, rfl⟩, ?_⟩
        refine wpSeg_cons ?_
        simp only [pickL, List.getElem?_cons_zero, List.getElem?_cons_succ]
        repeat (go_big_quiet_step (fail))
        refine wpQuiet_nil ?_
        go_wp2_with fail
        rename_i KK hKK
        refine (upTo_any _ _).mono ?_
        rintro e w1 ⟨bb, rfl, hbx, hb⟩
        have HU := Lib.hid (allUp o.aA o.nA o.cA o.A 31 bb w1 (by omega) ((HI.out.iA).below (thru hb (below_gw W1 x0))) hbx)
        rw [HE8.out] at HU
        obtain ⟨x1, hx1⟩ := gw_of_below (thru hb (below_gw W1 x0))
        clear hbx hb
        subst hx1
        refine hKK _ _ (contQ_nil ⟨⟨_, rfl⟩, ?_⟩)
        clear hKK KK
        refine wpSeg_cons ?_
        simp only [pickL, List.getElem?_cons_zero, List.getElem?_cons_succ]
        repeat (go_big_quiet_step (fail))
        refine wpQuiet_nil ?_
        go_wp2_with fail
        rename_i KK hKK
        refine HU.out.mono ?_
        rintro e w2 ⟨rfl, hb⟩
        obtain ⟨x2, hx2⟩ := gw_of_below (thru hb (below_gw W1 x1))
        clear hb
        subst hx2
        refine hKK _ _ (contQ_nil ⟨⟨_, rfl⟩, ?_⟩)
        clear hKK KK HU
        refine wpSeg_cons ?_
        simp only [pickL, List.getElem?_cons_zero, List.getElem?_cons_succ]
        repeat (go_big_quiet_step (fail))
        refine wpQuiet_nil ?_
        go_wp2_with fail
        refine contQ_now ⟨⟨_, rfl⟩, ?_⟩
        refine wpSeg_cons ?_
        simp only [pickL, List.getElem?_cons_zero, List.getElem?_cons_succ]
        repeat (go_big_quiet_step (fail))
        refine wpQuiet_nil ?_
        go_wp2_with fail
        rename_i KK hKK
        refine (within_b o.nP 1 8 _ HE9.out).mono ?_
        rintro e w2 ⟨rfl, rfl⟩
        refine hKK _ _ (contQ_nil ⟨⟨_, rfl⟩, ?_⟩)
        clear hKK KK
        refine wpSeg_nil ?_
        simp only [pickL, List.getElem?_cons_zero, List.getElem?_cons_succ]
        repeat (go_big_quiet_step (fail))
        refine wpQuiet_nil ?_
        refine contN_nil ?_
        go_wp2_with fail
        go_ret
        exact ⟨by rw [of_and HE6.out rfl, of_and HR7.out rfl, of_and HE8.out rfl, no_and HE9.out]; rfl, HBc.out.gw x2⟩
      have HE9 := Lib.hid e9; clear e9
      go_wp2_with fail
      refine wp_region_steps (fun w' => ∃ x, w' = gw W1 x) [([0, 1], 2), ([3, 4, 5, 6], 7), ([], 8), ([9, 10, 11, 12, 13], 14), ([], 15)] [16, 17] [] (by kernel_rfl) (by kernel_rfl) ?_
      intro w9 h9
      obtain ⟨x0, rfl⟩ : ∃ x0, w9 = gw W1 x0 := by obtain ⟨x0, rfl⟩ := h9; exact gw_of_below (thru (below_gw _ x0) (below_gw W1 x))
      clear h9
      refine ⟨⟨_, rfl⟩, ?_⟩
      refine wpSeg_cons ?_
      simp only [pickL, List.getElem?_cons_zero, List.getElem?_cons_succ]
      repeat (go_big_quiet_step (fail))
      refine wpQuiet_nil ?_
      go_wp2_with fail
      refine contQ_now ⟨⟨_, rfl⟩, ?_⟩
      refine wpSeg_cons ?_
      simp only [pickL, List.getElem?_cons_zero, List.getElem?_cons_succ]
      repeat (go_big_quiet_step (fail))
      refine wpQuiet_nil ?_
      go_wp2_with fail
      rename_i KK hKK
      refine (upTo_any _ _).mono ?_
      rintro e w1 ⟨bb, rfl, hbx, hb⟩
      have HU := Lib.hid (allUp o.aA o.nA o.cA o.A 31 bb w1 (by omega) ((HI.out.iA).below (thru hb (below_gw W1 x0))) hbx)
      rw [HE8.out] at HU
      obtain ⟨x1, hx1⟩ := gw_of_below (thru hb (below_gw W1 x0))
      clear hbx hb
      subst hx1
      refine hKK _ _ (contQ_nil ⟨⟨_, rfl⟩, ?_⟩)
      clear hKK KK
      refine wpSeg_cons ?_
      simp only [pickL, List.getElem?_cons_zero, List.getElem?_cons_succ]
      repeat (go_big_quiet_step (fail))
      refine wpQuiet_nil ?_
      go_wp2_with fail
      rename_i KK hKK
      refine HU.out.mono ?_
      rintro e w2 ⟨rfl, hb⟩
      obtain ⟨x2, hx2⟩ := gw_of_below (thru hb (below_gw W1 x1))
      clear hb
      subst hx2
      refine hKK _ _ (contQ_nil ⟨⟨_, rfl⟩, ?_⟩)
      clear hKK KK HU
      refine wpSeg_cons ?_
      simp only [pickL, List.getElem?_cons_zero, List.getElem?_cons_succ]
      repeat (go_big_quiet_step (fail))
      refine wpQuiet_nil ?_
      go_wp2_with fail
      refine contQ_now ⟨⟨_, rfl⟩, ?_⟩
      refine wpSeg_cons ?_
      simp only [pickL, List.getElem?_cons_zero, List.getElem?_cons_succ]
      repeat (go_big_quiet_step (fail))
      refine wpQuiet_nil ?_
      go_wp2_with fail
      rename_i KK hKK
      refine (within_b o.nP 1 8 _ HE9.out).mono ?_
      rintro e w2 ⟨rfl, rfl⟩
      refine hKK _ _ (contQ_nil ⟨⟨_, rfl⟩, ?_⟩)
      clear hKK KK
      refine wpSeg_nil ?_
      simp only [pickL, List.getElem?_cons_zero, List.getElem?_cons_succ]
      repeat (go_big_quiet_step (fail))
      refine wpQuiet_nil ?_
      refine contN_nil ?_
      go_wp2_with fail
      refine (allS 50 #[.pointer (some ⟨w.heap.size, 0, none⟩)] (fun _ _ => rfl) o.pathB o.aP o.nP o.cP o.pA o.pN o.pC (gw W1 x2) (by omega) (HI.out.iP.below (below_gw W1 x2)) (fun W i hb hi => path1_any o i _ W hi (HI.out.below (thru hb (below_gw W1 x2))) HF.out (((thru hb (below_gw W1 x2)).block _ l0).trans Zc0.out))).mono ?_
      rintro e w3 ⟨rfl, hb⟩
      have HB3 := Lib.hid (thru hb (HBc.out.gw x2)); clear hb
      go_wp2_with fail
      go_ret
      exact ⟨by rw [of_and HE6.out rfl, of_and HR7.out rfl, of_and HE8.out rfl, of_and HE9.out rfl]; rfl, HB3.out⟩
end Go.Proofs.Ytdcpgjepgajioaa
