/- Contracts of Check and of the reference's test of a table. Contracts of the reference's test of a table. No conditions beyond each theorem's own. -/
import Derived.Test.YtjgnafhbeekebaaGreatLb
set_option linter.unusedVariables false
set_option linter.unusedSimpArgs false
set_option linter.unusedSectionVars false
set_option linter.constructorNameAsVariable false
namespace Go.Proofs.YtjgnafhbeekebaaGreat.L1
open Go.RowKit
open Go.Proofs.YtjgnafhbeekebaaGreat

attribute [local go_sem] gw_cell gw_frozen gw_size

/-- a table in memory -/
structure Tab where
  aT : Option Addr
  nT : Nat
  cT : Nat
  T : Nat → Int
  aS : Option Addr
  nS : Nat
  cS : Nat
  S : Nat → Int
  H : Rows
  R : Rows
def Tab.cells (t : Tab) : Array Value := #[.slice t.aT t.nT t.cT, .slice t.aS t.nS t.cS, .slice t.H.a t.H.n t.H.c, .slice t.R.a t.R.n t.R.c]
def Tab.val (t : Tab) : Value := .agg #[.slice t.aT t.nT t.cT, .slice t.aS t.nS t.cS, .slice t.H.a t.H.n t.H.c, .slice t.R.a t.R.n t.R.c]
structure Tab.In (t : Tab) (w : World) : Prop where
  iT : IntsAt w t.aT t.nT t.T
  iS : IntsAt w t.aS t.nS t.S
  iH : t.H.In w
  iR : t.R.In w
theorem Tab.In.below {t : Tab} {w w' : World} (h : t.In w) (hb : Below w.heap.size w w') : t.In w' := ⟨h.iT.below hb, h.iS.below hb, h.iH.below hb, h.iR.below hb⟩
/-- lengths that a slice can have -/
structure Rows.Fits (r : Rows) : Prop where
  n : r.n ≤ 9223372036854775806
  row : ∀ i, i < r.n → r.rN i ≤ 9223372036854775806
structure Tab.Fits (t : Tab) : Prop where
  nT : t.nT ≤ 9223372036854775806
  nS : t.nS ≤ 9223372036854775806
  H : t.H.Fits
  R : t.R.Fits
def Rows.hB (r : Rows) (m : Nat) (i : Nat) : Bool := decide (r.rN i = m) && risesB (r.M i) (r.rN i) (-10000) 20000
def Rows.rB (r : Rows) (m : Nat) (i : Nat) : Bool := decide (r.rN i = m) && allB (r.rN i) (fun k => inB (r.M i k) 900000 1100000)
def Tab.sizeB (t : Tab) : Bool := inB t.nT 2 32 && (inB t.nS 2 32 && (decide (t.H.n = t.nT) && decide (t.R.n = t.nT)))
def Tab.okB (t : Tab) : Bool := t.sizeB && (risesB t.T t.nT (-500) 1000 && (risesB t.S t.nS 0 10000 && (allB t.H.n (t.H.hB t.nS) && allB t.R.n (t.R.rB t.nS))))
def Tab.tb (t : Tab) : Tb := ⟨t.nT, t.nS, t.T, t.S, t.H.M, t.R.M⟩
/-- what a valid table is -/
structure Tab.Good (t : Tab) : Prop where
  ok : t.tb.Ok
  hn : t.H.n = t.nT
  rn : t.R.n = t.nT
  hl : ∀ i, i < t.nT → t.H.rN i = t.nS
  rl : ∀ i, i < t.nT → t.R.rN i = t.nS
theorem Tab.good {t : Tab} (h : t.okB = true) : t.Good := by
  simp only [Tab.okB, Tab.sizeB, Bool.and_eq_true, decide_eq_true_eq] at h
  obtain ⟨⟨h1, h2, h3, h4⟩, h5, h6, h7, h8⟩ := h
  have i1 := inB_t.1 h1
  have i2 := inB_t.1 h2
  obtain ⟨r1, r2⟩ := risesB_t h5
  obtain ⟨s1, s2⟩ := risesB_t h6
  rw [h3] at h7
  rw [h4] at h8
  have h7' := allB_t.1 h7
  have h8' := allB_t.1 h8
  simp only [Rows.hB, Rows.rB, Bool.and_eq_true, decide_eq_true_eq] at h7' h8'
  have hr : ∀ i, i < t.nT → Rises (t.H.M i) t.nS ∧ ∀ k, k < t.nS → -10000 ≤ t.H.M i k ∧ t.H.M i k ≤ 20000 := fun i hi => by
    have := risesB_t (h7' i hi).2
    rw [(h7' i hi).1] at this
    exact this
  exact ⟨⟨by show 2 ≤ t.nT; omega, by show t.nT ≤ 32; omega, by show 2 ≤ t.nS; omega, by show t.nS ≤ 32; omega, r1, s1, r2, s2, fun i hi => (hr i hi).1, fun i k hi hk => (hr i hi).2 k hk,
    fun i k hi hk => inB_t.1 (allB_t.1 (h8' i hi).2 k (by rw [(h8' i hi).1]; exact hk))⟩, h3, h4, fun i hi => (h7' i hi).1, fun i hi => (h8' i hi).1⟩

theorem eq_cast (a b : Nat) : ((a : Int) == (b : Int)) = decide (a = b) := by
  by_cases h : a = b
  · simp [h]
  · rw [decide_eq_false h]; simp; omega

set_option maxHeartbeats 1000000 in
theorem check1_any (r : Rows) (m i bm : Nat) (w : World) (hf : r.rN i ≤ 9223372036854775806) (hr : IntsAt w (r.rA i) (r.rN i) (r.M i)) (hm : w.cell? ⟨bm, 0, none⟩ = some (.int .i64 m)) :
    Calls Tryz.prog 45 #[.slice (r.rA i) (r.rN i) (r.rC i), .pointer (some ⟨bm, 0, none⟩)] w fun e w' => e = .returned (.bool (r.hB m i)) ∧ Below w.heap.size w w' := by
  have E := eq_cast (r.rN i) m
  by_cases h : r.rN i = m
  · rw [decide_eq_true h] at E
    have R := Lib.hid (rises_any (r.rA i) (r.rN i) (r.rC i) (r.M i) (-10000) 20000 w (by omega) hr)
    have HB := Lib.hid (show r.hB m i = risesB (r.M i) (r.rN i) (-10000) 20000 by unfold Rows.hB; rw [decide_eq_true h]; rfl)
    rw [HB.out]
    clear h HB hr
    generalize risesB (r.M i) (r.rN i) (-10000) 20000 = B at *
    go_enter Tryz.func45, Tryz.ntmps45
    go_wp2_with fail
    refine R.out.mono ?_
    rintro e w1 ⟨rfl, rfl⟩
    go_wp2_with fail
    go_ret
    exact ⟨by cases B <;> rfl, Below.refl _ _⟩
  · rw [decide_eq_false h] at E
    have HB := Lib.hid (show r.hB m i = false by unfold Rows.hB; rw [decide_eq_false h]; rfl)
    clear h hr
    go_enter Tryz.func45, Tryz.ntmps45
    go_wp2_with fail
    go_ret
    exact ⟨by rw [HB.out]; rfl, Below.refl _ _⟩

set_option maxHeartbeats 1000000 in
theorem check21_any (x : Int) (w : World) : Calls Tryz.prog 48 #[.int .i64 x] w fun e w' => e = .returned (.bool (inB x 900000 1100000)) ∧ Below w.heap.size w w' := by
  have W := Lib.hid (within_any x 900000 1100000 w)
  generalize inB x 900000 1100000 = B at *
  go_enter Tryz.func48, Tryz.ntmps48
  go_wp2_with fail
  refine W.out.mono ?_
  rintro e w1 ⟨rfl, rfl⟩
  go_wp2_with fail
  go_ret
  exact ⟨rfl, Below.refl _ _⟩

set_option maxHeartbeats 1000000 in
theorem check2_any (r : Rows) (m i bm : Nat) (w : World) (hf : r.rN i ≤ 9223372036854775806) (hr : IntsAt w (r.rA i) (r.rN i) (r.M i)) (hm : w.cell? ⟨bm, 0, none⟩ = some (.int .i64 m)) :
    Calls Tryz.prog 46 #[.slice (r.rA i) (r.rN i) (r.rC i), .pointer (some ⟨bm, 0, none⟩)] w fun e w' => e = .returned (.bool (r.rB m i)) ∧ Below w.heap.size w w' := by
  have E := eq_cast (r.rN i) m
  by_cases h : r.rN i = m
  · rw [decide_eq_true h] at E
    have R := Lib.hid (allI 48 #[] (enters_of Tryz.func48 (by kernel_rfl) rfl) (fun k => inB (r.M i k) 900000 1100000) (r.rA i) (r.rN i) (r.rC i) (r.M i) w (by omega) hr (fun W k _ _ => check21_any (r.M i k) W))
    have HB := Lib.hid (show r.rB m i = allB (r.rN i) (fun k => inB (r.M i k) 900000 1100000) by unfold Rows.rB; rw [decide_eq_true h]; rfl)
    rw [HB.out]
    clear h HB hr
    generalize allB (r.rN i) (fun k => inB (r.M i k) 900000 1100000) = B at *
    go_enter Tryz.func46, Tryz.ntmps46
    go_wp2_with fail
    refine R.out.mono ?_
    rintro e w1 ⟨rfl, hb⟩
    go_wp2_with fail
    go_ret
    exact ⟨by cases B <;> rfl, hb⟩
  · rw [decide_eq_false h] at E
    have HB := Lib.hid (show r.rB m i = false by unfold Rows.rB; rw [decide_eq_false h]; rfl)
    clear h hr
    go_enter Tryz.func46, Tryz.ntmps46
    go_wp2_with fail
    go_ret
    exact ⟨by rw [HB.out]; rfl, Below.refl _ _⟩

set_option maxRecDepth 100000 in
set_option maxHeartbeats 2000000 in
theorem Check_any (t : Tab) (w : World) (hI : t.In w) (hf : t.Fits) :
    Calls Tryz.prog 31 #[t.val] w fun e w' => e = .returned (.int .i64 (if t.okB = true then 0 else 1)) ∧ Below w.heap.size w w' := by
  have hmf : ∀ (fn : Fn) (first cap : Array Value) (w : World), (Instr.makeFunc fn first cap).run Tryz.prog w = .ok (.func fn first cap) w := fun _ _ _ _ => rfl
  unfold Tab.val
  obtain ⟨W1, hW1⟩ : ∃ W1, w.alloc (.cells #[.slice t.aT t.nT t.cT, .slice t.aS t.nS t.cS, .slice t.H.a t.H.n t.H.c, .slice t.R.a t.R.n t.R.c] 25) = W1 := ⟨_, rfl⟩
  have hBc : Below w.heap.size w W1 := by rw [← hW1]; exact below_alloc _ _
  have zc0 : W1.heap[w.heap.size]? = some (.cells #[.slice t.aT t.nT t.cT, .slice t.aS t.nS t.cS, .slice t.H.a t.H.n t.H.c, .slice t.R.a t.R.n t.R.c] 25 (0, 0)) := by rw [← hW1]; exact alloc_at rfl
  have c00 : W1.cell? ⟨w.heap.size, 0, none⟩ = some (.slice t.aT t.nT t.cT) := cell_of_block zc0 0 (by simp)
  have c01 : W1.cell? ⟨w.heap.size, 1, none⟩ = some (.slice t.aS t.nS t.cS) := cell_of_block zc0 1 (by simp)
  have c02 : W1.cell? ⟨w.heap.size, 2, none⟩ = some (.slice t.H.a t.H.n t.H.c) := cell_of_block zc0 2 (by simp)
  have c03 : W1.cell? ⟨w.heap.size, 3, none⟩ = some (.slice t.R.a t.R.n t.R.c) := cell_of_block zc0 3 (by simp)
  have lc0 := (Array.getElem?_eq_some_iff.1 zc0).1
  clear zc0
  have HBc := Lib.hid hBc; clear hBc
  have HWc := Lib.hid hW1; clear hW1
  obtain ⟨W2, hW2⟩ : ∃ W2, (W1.alloc (.cells #[.int .i64 t.nS] 3)).drew = W2 := ⟨_, rfl⟩
  have hB2 : Below W1.heap.size W1 W2 := by rw [← hW2]; exact below_alloc_drew _ _
  have z20 : W2.heap[W1.heap.size]? = some (.cells #[.int .i64 t.nS] 3 (0, 0)) := by rw [← hW2]; exact alloc_at rfl
  have lm := (Array.getElem?_eq_some_iff.1 z20).1
  have cm : W2.cell? ⟨W1.heap.size, 0, none⟩ = some (.int .i64 t.nS) := cell_of_block z20 0 (by simp)
  have HB2 := Lib.hid (thru hB2 HBc.out)
  have I2 := hI.below HB2.out
  have E3 := eq_cast t.H.n t.nT
  have E4 := eq_cast t.R.n t.nT
  have fH := hf.H
  have fR := hf.R
  have QA := Lib.hid (rises_any t.aT t.nT t.cT t.T (-500) 1000 W2 (by have := hf.nT; omega) I2.iT)
  have QB := Lib.hid (rises_any t.aS t.nS t.cS t.S 0 10000 W2 (by have := hf.nS; omega) I2.iS)
  have QC := Lib.hid (allR 45 #[.pointer (some ⟨W1.heap.size, 0, none⟩)] (enters_of Tryz.func45 (by kernel_rfl) rfl) (t.H.hB t.nS) t.H.a t.H.n t.H.c t.H.rA t.H.rN t.H.rC W2 (by have := fH.n; omega) I2.iH.cells
    (fun W i hb hi => check1_any t.H t.nS i W1.heap.size W (fH.row i hi) ((I2.iH.rows i hi).below hb) (below_cell hb cm)))
  have QD := Lib.hid (fun x => allR 46 #[.pointer (some ⟨W1.heap.size, 0, none⟩)] (enters_of Tryz.func46 (by kernel_rfl) rfl) (t.R.rB t.nS) t.R.a t.R.n t.R.c t.R.rA t.R.rN t.R.rC (gw W2 x) (by have := fR.n; omega) (I2.iR.cells.below (below_gw W2 x))
    (fun W i hb hi => check2_any t.R t.nS i W1.heap.size W (fR.row i hi) ((I2.iR.rows i hi).below (thru hb (below_gw W2 x))) (below_cell (thru hb (below_gw W2 x)) cm)))
  have OKV := Lib.hid (show t.okB = (t.sizeB && (risesB t.T t.nT (-500) 1000 && (risesB t.S t.nS 0 10000 && (allB t.H.n (t.H.hB t.nS) && allB t.R.n (t.R.rB t.nS))))) from rfl)
  have SZV := Lib.hid (show t.sizeB = (inB t.nT 2 32 && (inB t.nS 2 32 && (decide (t.H.n = t.nT) && decide (t.R.n = t.nT)))) from rfl)
  have hb20 := (Array.getElem?_eq_some_iff.1 z20).1
  have e2c := fun (o : Nat) (v : Value) (h : W1.cell? ⟨w.heap.size, o, none⟩ = some v) => below_cell hB2 h
  replace e0 := e2c 0 _ c00
  replace e1 := e2c 1 _ c01
  replace e2 := e2c 2 _ c02
  replace e3 := e2c 3 _ c03
  have lq := World.block_lt_of_cell? W2 _ e0
  dsimp only at lq
  clear e2c z20 hB2 I2 fH fR hI hf
  rw [OKV.out, SZV.out]
  clear OKV SZV
  generalize allB t.H.n (t.H.hB t.nS) = BC at *
  generalize allB t.R.n (t.R.rB t.nS) = BD at *
  generalize risesB t.T t.nT (-500) 1000 = BA at *
  generalize risesB t.S t.nS 0 10000 = BB at *
  cases h1 : inB (t.nT : Int) 2 32 with
  | false =>
    have T1 := Lib.hid h1; clear h1
    go_enter Tryz.func31, Tryz.ntmps31
    go_upto_region 1 with (fail)
    rw [HWc.out]
    go_region
    go_wp2_with fail
    refine (within_b _ _ _ _ T1.out).mono ?_
    rintro e w1 ⟨rfl, rfl⟩
    go_wp2_with fail
    go_ret
    exact ⟨rfl, HB2.out⟩
  | true =>
    have T1 := Lib.hid h1; clear h1
    cases h2 : inB (t.nS : Int) 2 32 with
    | false =>
      have T2 := Lib.hid h2; clear h2
      go_enter Tryz.func31, Tryz.ntmps31
      go_upto_region 1 with (fail)
      rw [HWc.out]
      go_region
      go_wp2_with fail
      refine (within_b _ _ _ _ T1.out).mono ?_
      rintro e w1 ⟨rfl, rfl⟩
      go_wp2_with fail
      refine (within_b _ _ _ _ T2.out).mono ?_
      rintro e w1 ⟨rfl, rfl⟩
      go_wp2_with fail
      go_ret
      exact ⟨rfl, HB2.out⟩
    | true =>
      have T2 := Lib.hid h2; clear h2
      by_cases h3 : t.H.n = t.nT
      · rw [decide_eq_true h3] at E3 ⊢
        clear h3
        by_cases h4 : t.R.n = t.nT
        · rw [decide_eq_true h4] at E4 ⊢
          clear h4
          cases BA with
          | false =>
            go_enter Tryz.func31, Tryz.ntmps31
            go_upto_region 1 with (fail)
            rw [HWc.out]
            go_region
            go_wp2_with fail
            refine (within_b _ _ _ _ T1.out).mono ?_
            rintro e w1 ⟨rfl, rfl⟩
            go_wp2_with fail
            refine (within_b _ _ _ _ T2.out).mono ?_
            rintro e w1 ⟨rfl, rfl⟩
            go_wp2_with fail
            refine (QA.out).mono ?_
            rintro e w1 ⟨rfl, rfl⟩
            go_wp2_with fail
            go_ret
            exact ⟨rfl, HB2.out⟩
          | true =>
            cases BB with
            | false =>
              go_enter Tryz.func31, Tryz.ntmps31
              go_upto_region 1 with (fail)
              rw [HWc.out]
              go_region
              go_wp2_with fail
              refine (within_b _ _ _ _ T1.out).mono ?_
              rintro e w1 ⟨rfl, rfl⟩
              go_wp2_with fail
              refine (within_b _ _ _ _ T2.out).mono ?_
              rintro e w1 ⟨rfl, rfl⟩
              go_wp2_with fail
              refine (QA.out).mono ?_
              rintro e w1 ⟨rfl, rfl⟩
              go_wp2_with fail
              refine (QB.out).mono ?_
              rintro e w1 ⟨rfl, rfl⟩
              go_wp2_with fail
              go_ret
              exact ⟨rfl, HB2.out⟩
            | true =>
              cases BC with
              | false =>
                go_enter Tryz.func31, Tryz.ntmps31
                go_upto_region 1 with (fail)
                rw [HWc.out]
                go_region
                go_wp2_with fail
                refine (within_b _ _ _ _ T1.out).mono ?_
                rintro e w1 ⟨rfl, rfl⟩
                go_wp2_with fail
                refine (within_b _ _ _ _ T2.out).mono ?_
                rintro e w1 ⟨rfl, rfl⟩
                go_wp2_with fail
                refine (QA.out).mono ?_
                rintro e w1 ⟨rfl, rfl⟩
                go_wp2_with fail
                refine (QB.out).mono ?_
                rintro e w1 ⟨rfl, rfl⟩
                go_wp2_with fail
                refine (Calls.grown (QC.out)).mono ?_
                rintro e w1 ⟨rfl, z1, rfl⟩
                go_wp2_with fail
                go_ret
                exact ⟨rfl, HB2.out.gw z1⟩
              | true =>
                cases BD with
                | false =>
                  go_enter Tryz.func31, Tryz.ntmps31
                  go_upto_region 1 with (fail)
                  rw [HWc.out]
                  go_region
                  go_wp2_with fail
                  refine (within_b _ _ _ _ T1.out).mono ?_
                  rintro e w1 ⟨rfl, rfl⟩
                  go_wp2_with fail
                  refine (within_b _ _ _ _ T2.out).mono ?_
                  rintro e w1 ⟨rfl, rfl⟩
                  go_wp2_with fail
                  refine (QA.out).mono ?_
                  rintro e w1 ⟨rfl, rfl⟩
                  go_wp2_with fail
                  refine (QB.out).mono ?_
                  rintro e w1 ⟨rfl, rfl⟩
                  go_wp2_with fail
                  refine (Calls.grown (QC.out)).mono ?_
                  rintro e w1 ⟨rfl, z1, rfl⟩
                  go_wp2_with fail
                  refine (Calls.gw_of (QD.out z1)).mono ?_
                  rintro e w1 ⟨rfl, z2, rfl⟩
                  go_wp2_with fail
                  go_ret
                  exact ⟨rfl, HB2.out.gw z2⟩
                | true =>
                  go_enter Tryz.func31, Tryz.ntmps31
                  go_upto_region 1 with (fail)
                  rw [HWc.out]
                  go_region
                  go_wp2_with fail
                  refine (within_b _ _ _ _ T1.out).mono ?_
                  rintro e w1 ⟨rfl, rfl⟩
                  go_wp2_with fail
                  refine (within_b _ _ _ _ T2.out).mono ?_
                  rintro e w1 ⟨rfl, rfl⟩
                  go_wp2_with fail
                  refine (QA.out).mono ?_
                  rintro e w1 ⟨rfl, rfl⟩
                  go_wp2_with fail
                  refine (QB.out).mono ?_
                  rintro e w1 ⟨rfl, rfl⟩
                  go_wp2_with fail
                  refine (Calls.grown (QC.out)).mono ?_
                  rintro e w1 ⟨rfl, z1, rfl⟩
                  go_wp2_with fail
                  refine (Calls.gw_of (QD.out z1)).mono ?_
                  rintro e w1 ⟨rfl, z2, rfl⟩
                  go_wp2_with fail
                  go_ret
                  exact ⟨rfl, HB2.out.gw z2⟩
        · rw [decide_eq_false h4] at E4 ⊢
          clear h4
          go_enter Tryz.func31, Tryz.ntmps31
          go_upto_region 1 with (fail)
          rw [HWc.out]
          go_region
          go_wp2_with fail
          refine (within_b _ _ _ _ T1.out).mono ?_
          rintro e w1 ⟨rfl, rfl⟩
          go_wp2_with fail
          refine (within_b _ _ _ _ T2.out).mono ?_
          rintro e w1 ⟨rfl, rfl⟩
          go_wp2_with fail
          go_ret
          exact ⟨rfl, HB2.out⟩
      · rw [decide_eq_false h3] at E3 ⊢
        clear h3
        go_enter Tryz.func31, Tryz.ntmps31
        go_upto_region 1 with (fail)
        rw [HWc.out]
        go_region
        go_wp2_with fail
        refine (within_b _ _ _ _ T1.out).mono ?_
        rintro e w1 ⟨rfl, rfl⟩
        go_wp2_with fail
        refine (within_b _ _ _ _ T2.out).mono ?_
        rintro e w1 ⟨rfl, rfl⟩
        go_wp2_with fail
        go_ret
        exact ⟨rfl, HB2.out⟩
end Go.Proofs.YtjgnafhbeekebaaGreat.L1

namespace Go.Proofs.YtjgnafhbeekebaaGreat.L1
open Go.RowKit
open Go.Proofs.YtjgnafhbeekebaaGreat

attribute [local go_sem] gw_cell gw_frozen gw_size

theorem ne_t {a b : Nat} (h : a = b) : ((a : Int) != (b : Int)) = false := by simp [h]
theorem ne_f {a b : Nat} (h : ¬ a = b) : ((a : Int) != (b : Int)) = true := by simp; omega
theorem Tab.okB_size {t : Tab} (h : t.sizeB = false) : t.okB = false := by unfold Tab.okB; rw [h]; rfl
theorem Tab.okB_T {t : Tab} (h : risesB t.T t.nT (-500) 1000 = false) : t.okB = false := by unfold Tab.okB; rw [h]; simp
theorem Tab.okB_S {t : Tab} (h : risesB t.S t.nS 0 10000 = false) : t.okB = false := by unfold Tab.okB; rw [h]; simp
theorem Tab.okB_H {t : Tab} (h : allB t.H.n (t.H.hB t.nS) = false) : t.okB = false := by unfold Tab.okB; rw [h]; simp
theorem Tab.okB_R {t : Tab} (h : allB t.R.n (t.R.rB t.nS) = false) : t.okB = false := by unfold Tab.okB; rw [h]; simp
theorem Tab.okB_all {t : Tab} (h1 : t.sizeB = true) (h2 : risesB t.T t.nT (-500) 1000 = true) (h3 : risesB t.S t.nS 0 10000 = true) (h4 : allB t.H.n (t.H.hB t.nS) = true) (h5 : allB t.R.n (t.R.rB t.nS) = true) : t.okB = true := by
  unfold Tab.okB; rw [h1, h2, h3, h4, h5]; rfl

set_option maxRecDepth 100000 in
set_option maxHeartbeats 4000000 in
theorem rTable_any (t : Tab) (w : World) (hI : t.In w) (hf : t.nT ≤ 9223372036854775806 ∧ t.nS ≤ 9223372036854775806) :
    Calls Tryz.prog 4 #[t.val] w fun e w' => e = .returned (.bool t.okB) ∧ Below w.heap.size w w' := by
  unfold Tab.val
  obtain ⟨W1, hW1⟩ : ∃ W1, w.alloc (.cells #[.slice t.aT t.nT t.cT, .slice t.aS t.nS t.cS, .slice t.H.a t.H.n t.H.c, .slice t.R.a t.R.n t.R.c] 25) = W1 := ⟨_, rfl⟩
  have hBc : Below w.heap.size w W1 := by rw [← hW1]; exact below_alloc _ _
  have zc0 : W1.heap[w.heap.size]? = some (.cells #[.slice t.aT t.nT t.cT, .slice t.aS t.nS t.cS, .slice t.H.a t.H.n t.H.c, .slice t.R.a t.R.n t.R.c] 25 (0, 0)) := by rw [← hW1]; exact alloc_at rfl
  have c00 : W1.cell? ⟨w.heap.size, 0, none⟩ = some (.slice t.aT t.nT t.cT) := cell_of_block zc0 0 (by simp)
  have c01 : W1.cell? ⟨w.heap.size, 1, none⟩ = some (.slice t.aS t.nS t.cS) := cell_of_block zc0 1 (by simp)
  have c02 : W1.cell? ⟨w.heap.size, 2, none⟩ = some (.slice t.H.a t.H.n t.H.c) := cell_of_block zc0 2 (by simp)
  have c03 : W1.cell? ⟨w.heap.size, 3, none⟩ = some (.slice t.R.a t.R.n t.R.c) := cell_of_block zc0 3 (by simp)
  have lc0 := (Array.getElem?_eq_some_iff.1 zc0).1
  clear zc0
  have HBc := Lib.hid hBc; clear hBc
  have HWc := Lib.hid hW1; clear hW1
  have I1 := hI.below HBc.out
  have HI1 := Lib.hid I1
  have e0 := c00
  have e1 := c01
  have e2 := c02
  have e3 := c03
  clear c00 c01 c02 c03
  have QA := Lib.hid (fun x => rrises_any t.aT t.nT t.cT t.T (-500) 1000 (gw W1 x) (by have := hf.1; omega) (I1.iT.below (below_gw W1 x)))
  have QB := Lib.hid (fun x => rrises_any t.aS t.nS t.cS t.S 0 10000 (gw W1 x) (by have := hf.2; omega) (I1.iS.below (below_gw W1 x)))
  clear hI hf I1
  cases h1 : inB (t.nT : Int) 2 32 with
  | false =>
    have OKF := Lib.hid (show t.okB = false from t.okB_size (by unfold Tab.sizeB; rw [h1]; rfl))
    have T1 := Lib.hid h1; clear h1
    go_enter Tryz.func4, Tryz.ntmps4
    go_upto_region 1 with (fail)
    rw [HWc.out]
    refine wp_region_gw (by kernel_rfl) (by kernel_rfl) ?_
    repeat (go_big_quiet_step (fail))
    refine wpQuiet_nil ?_
    rintro _ ⟨z0, rfl⟩
    go_wp2_with fail
    refine (rin_b _ _ _ _ T1.out).mono ?_
    rintro e w1 ⟨rfl, rfl⟩
    go_wp2_with fail
    go_ret
    exact ⟨by rw [OKF.out]; rfl, HBc.out.gw z0⟩
  | true =>
    have T1 := Lib.hid h1; clear h1
    cases h2 : inB (t.nS : Int) 2 32 with
    | false =>
      have OKF := Lib.hid (show t.okB = false from t.okB_size (by unfold Tab.sizeB; rw [h2]; simp))
      have T2 := Lib.hid h2; clear h2
      go_enter Tryz.func4, Tryz.ntmps4
      go_upto_region 1 with (fail)
      rw [HWc.out]
      refine wp_region_gw (by kernel_rfl) (by kernel_rfl) ?_
      repeat (go_big_quiet_step (fail))
      refine wpQuiet_nil ?_
      rintro _ ⟨z0, rfl⟩
      go_wp2_with fail
      refine (rin_b _ _ _ _ T1.out).mono ?_
      rintro e w1 ⟨rfl, rfl⟩
      go_wp2_with fail
      refine (rin_b _ _ _ _ T2.out).mono ?_
      rintro e w1 ⟨rfl, rfl⟩
      go_wp2_with fail
      go_ret
      exact ⟨by rw [OKF.out]; rfl, HBc.out.gw z0⟩
    | true =>
      have T2 := Lib.hid h2; clear h2
      cases h5 : risesB t.T t.nT (-500) 1000 with
      | false =>
        have OKF := Lib.hid (show t.okB = false from t.okB_T h5)
        have T5 := Lib.hid h5; clear h5
        go_enter Tryz.func4, Tryz.ntmps4
        go_upto_region 1 with (fail)
        rw [HWc.out]
        refine wp_region_gw (by kernel_rfl) (by kernel_rfl) ?_
        repeat (go_big_quiet_step (fail))
        refine wpQuiet_nil ?_
        rintro _ ⟨z0, rfl⟩
        go_wp2_with fail
        refine (rin_b _ _ _ _ T1.out).mono ?_
        rintro e w1 ⟨rfl, rfl⟩
        go_wp2_with fail
        refine (rin_b _ _ _ _ T2.out).mono ?_
        rintro e w1 ⟨rfl, rfl⟩
        go_wp2_with fail
        have CC := QA.out z0
        rw [T5.out] at CC
        refine (Calls.gw_of CC).mono ?_
        rintro e w1 ⟨rfl, z1, rfl⟩
        clear CC
        go_wp2_with fail
        go_ret
        exact ⟨by rw [OKF.out]; rfl, HBc.out.gw z1⟩
      | true =>
        have T5 := Lib.hid h5; clear h5
        cases h6 : risesB t.S t.nS 0 10000 with
        | false =>
          have OKF := Lib.hid (show t.okB = false from t.okB_S h6)
          have T6 := Lib.hid h6; clear h6
          go_enter Tryz.func4, Tryz.ntmps4
          go_upto_region 1 with (fail)
          rw [HWc.out]
          refine wp_region_gw (by kernel_rfl) (by kernel_rfl) ?_
          repeat (go_big_quiet_step (fail))
          refine wpQuiet_nil ?_
          rintro _ ⟨z0, rfl⟩
          go_wp2_with fail
          refine (rin_b _ _ _ _ T1.out).mono ?_
          rintro e w1 ⟨rfl, rfl⟩
          go_wp2_with fail
          refine (rin_b _ _ _ _ T2.out).mono ?_
          rintro e w1 ⟨rfl, rfl⟩
          go_wp2_with fail
          have CC := QA.out z0
          rw [T5.out] at CC
          refine (Calls.gw_of CC).mono ?_
          rintro e w1 ⟨rfl, z1, rfl⟩
          clear CC
          go_wp2_with fail
          have CC := QB.out z1
          rw [T6.out] at CC
          refine (Calls.gw_of CC).mono ?_
          rintro e w1 ⟨rfl, z2, rfl⟩
          clear CC
          go_wp2_with fail
          go_ret
          exact ⟨by rw [OKF.out]; rfl, HBc.out.gw z2⟩
        | true =>
          have T6 := Lib.hid h6; clear h6
          by_cases h3 : t.H.n = t.nT
          · have E3 := ne_t h3
            have H3 := Lib.hid h3; clear h3
            by_cases h4 : t.R.n = t.nT
            · have E4 := ne_t h4
              have H4 := Lib.hid h4; clear h4
              have OKS := Lib.hid (show t.sizeB = true by unfold Tab.sizeB; rw [T1.out, T2.out, decide_eq_true H3.out, decide_eq_true H4.out]; rfl)
              have k32 := (inB_t.1 T1.out).2
              have l32 := (inB_t.1 T2.out).2
              go_enter Tryz.func4, Tryz.ntmps4
              go_upto_region 1 with (fail)
              rw [HWc.out]
              refine wp_region_gw (by kernel_rfl) (by kernel_rfl) ?_
              repeat (go_big_quiet_step (fail))
              refine wpQuiet_nil ?_
              rintro _ ⟨z0, rfl⟩
              go_wp2_with fail
              refine (rin_b _ _ _ _ T1.out).mono ?_
              rintro e w1 ⟨rfl, rfl⟩
              go_wp2_with fail
              refine (rin_b _ _ _ _ T2.out).mono ?_
              rintro e w1 ⟨rfl, rfl⟩
              go_wp2_with fail
              have CC := QA.out z0
              rw [T5.out] at CC
              refine (Calls.gw_of CC).mono ?_
              rintro e w1 ⟨rfl, z1, rfl⟩
              clear CC
              go_wp2_with fail
              have CC := QB.out z1
              rw [T6.out] at CC
              refine (Calls.gw_of CC).mono ?_
              rintro e w1 ⟨rfl, z2, rfl⟩
              clear CC
              go_wp2_with fail
              go_loopw [5] (fun s wr => ∃ k : Nat, k ≤ t.nT ∧ s = .int .i64 k ∧ Hid (∀ i, i < k → (t.H.hB t.nS i && t.R.rB t.nS i) = true) ∧ ∃ x, wr = gw W1 x) (fun s _ => t.nT - (intOf s).toNat)
              case atStart => exact ⟨0, Nat.zero_le _, rfl, Lib.hid (fun i hi => by omega), z2, rfl⟩
              case round =>
                obtain ⟨k, hk, rfl, hall, x, rfl⟩ := hrel
                by_cases hlt : k < t.nT
                · rcases HI1.out.iH.cells with h0 | ⟨bH, oH, eH, lH, cH⟩
                  · have := H3.out; omega
                  rcases HI1.out.iR.cells with h0 | ⟨bR, oR, eR, lR, cR⟩
                  · have := H4.out; omega
                  have x1 := cH k (by have := H3.out; have := H4.out; omega)
                  have x2 := cR k (by have := H3.out; have := H4.out; omega)
                  have kH : k < t.H.n := by have := H3.out; omega
                  have kR : k < t.R.n := by have := H4.out; omega
                  unfold Rows.row at x1 x2
                  rw [eH] at e2
                  rw [eR] at e3
                  clear eH eR
                  clear cH cR
                  by_cases g1 : t.H.rN k = t.nS
                  · have QR := Lib.hid (rrises_any (t.H.rA k) (t.H.rN k) (t.H.rC k) (t.H.M k) (-10000) 20000 (gw W1 x) (by have := g1; have := l32; omega) ((HI1.out.iH.rows k (by have := H3.out; have := H4.out; omega)).below (below_gw W1 x)))
                    by_cases g2 : t.R.rN k = t.nS
                    · have F1 := ne_t g1
                      have F2 := ne_t g2
                      cases g3 : risesB (t.H.M k) (t.H.rN k) (-10000) 20000 with
                      | false =>
                        rw [g3] at QR
                        have OKF := Lib.hid (show t.okB = false from t.okB_H (allB_f (j := k) (by have := H3.out; have := H4.out; omega) (by unfold Rows.hB; rw [g3]; simp)))
                        clear g1 g2 g3
                        go_wp2_with fail
                        refine (Calls.gw_of QR.out).mono ?_
                        rintro e w1 ⟨rfl, y, rfl⟩
                        go_wp2_with fail
                        go_ret
                        exact ⟨by rw [OKF.out]; rfl, HBc.out.gw y⟩
                      | true =>
                        rw [g3] at QR
                        have HH := Lib.hid (show t.H.hB t.nS k = true by unfold Rows.hB; rw [g3, decide_eq_true g1]; rfl)
                        have G2 := Lib.hid g2
                        clear g1 g2 g3
                        go_wp2_with fail
                        refine (Calls.gw_of QR.out).mono ?_
                        rintro e w1 ⟨rfl, y, rfl⟩
                        go_wp2_with fail
                        clear QR
                        go_loopw [6] (fun s wr => ∃ j : Nat, j ≤ t.nS ∧ s = .int .i64 j ∧ Hid (∀ i, i < j → inB (t.R.M k i) 900000 1100000 = true) ∧ ∃ x, wr = gw W1 x) (fun s _ => t.nS - (intOf s).toNat)
                        case atStart => exact ⟨0, Nat.zero_le _, rfl, Lib.hid (fun i hi => by omega), y, rfl⟩
                        case round =>
                          obtain ⟨j, hj, rfl, hal2, x5, rfl⟩ := hrel
                          by_cases hl2 : j < t.nS
                          · rcases HI1.out.iR.rows k (by have := H3.out; have := H4.out; omega) with h0 | ⟨b2, o2, e5, l2, c2⟩
                            · have := G2.out; omega
                            have y1 := c2 j (by have := G2.out; omega)
                            have jR : j < t.R.rN k := by have := G2.out; omega
                            rw [e5] at x2
                            clear e5
                            clear c2
                            cases g4 : inB (t.R.M k j) 900000 1100000 with
                            | false =>
                              have OKF := Lib.hid (show t.okB = false from t.okB_R (allB_f (j := k) (by have := H3.out; have := H4.out; omega) (by unfold Rows.rB; rw [allB_f (j := j) (by omega) g4]; simp)))
                              have T4 := Lib.hid g4
                              clear g4
                              go_wp2_with fail
                              refine (rin_b _ _ _ _ T4.out).mono ?_
                              rintro e w1 ⟨rfl, rfl⟩
                              go_wp2_with fail
                              go_ret
                              exact ⟨by rw [OKF.out]; rfl, HBc.out.gw x5⟩
                            | true =>
                              have T4 := Lib.hid g4
                              clear g4
                              go_wp2_with fail
                              refine (rin_b _ _ _ _ T4.out).mono ?_
                              rintro e w1 ⟨rfl, rfl⟩
                              go_wp2_with fail
                              go_roundw
                              case rel => exact ⟨j + 1, by omega, by go_num, Lib.hid (all_succ (P := fun i => inB (t.R.M k i) 900000 1100000 = true) hal2.out T4.out), x5, rfl⟩
                              case measure => simp [intOf]; omega
                          · obtain rfl : t.nS = j := by omega
                            have HR := Lib.hid (show t.R.rB t.nS k = true by unfold Rows.rB; rw [decide_eq_true G2.out, G2.out]; exact allB_t.2 hal2.out)
                            go_wp2_with fail
                            go_roundw
                            case rel => exact ⟨k + 1, by omega, by go_num, Lib.hid (all_succ (P := fun i => (t.H.hB t.nS i && t.R.rB t.nS i) = true) hall.out (by rw [HH.out, HR.out]; rfl)), x5, rfl⟩
                            case measure => simp [intOf]; omega
                    · have F1 := ne_t g1
                      have F2 := ne_f g2
                      have OKF := Lib.hid (show t.okB = false from t.okB_R (allB_f (j := k) (by have := H3.out; have := H4.out; omega) (by unfold Rows.rB; rw [decide_eq_false g2]; rfl)))
                      clear g1 g2 QR
                      go_wp2_with fail
                      go_ret
                      exact ⟨by rw [OKF.out]; rfl, HBc.out.gw x⟩
                  · have F1 := ne_f g1
                    have OKF := Lib.hid (show t.okB = false from t.okB_H (allB_f (j := k) (by have := H3.out; have := H4.out; omega) (by unfold Rows.hB; rw [decide_eq_false g1]; rfl)))
                    clear g1
                    go_wp2_with fail
                    go_ret
                    exact ⟨by rw [OKF.out]; rfl, HBc.out.gw x⟩
                · have OKT := Lib.hid (show t.okB = true from by
                    have ha := hall.out
                    simp only [Bool.and_eq_true] at ha
                    exact t.okB_all OKS.out T5.out T6.out (allB_t.2 fun i hi => (ha i (by have := H3.out; omega)).1) (allB_t.2 fun i hi => (ha i (by have := H4.out; omega)).2))
                  obtain rfl : k = t.nT := by omega
                  go_wp2_with fail
                  go_ret
                  exact ⟨by rw [OKT.out]; rfl, HBc.out.gw x⟩
            · have OKF := Lib.hid (show t.okB = false from t.okB_size (by unfold Tab.sizeB; rw [decide_eq_false h4]; simp))
              have E4 := ne_f h4
              clear h4
              go_enter Tryz.func4, Tryz.ntmps4
              go_upto_region 1 with (fail)
              rw [HWc.out]
              refine wp_region_gw (by kernel_rfl) (by kernel_rfl) ?_
              repeat (go_big_quiet_step (fail))
              refine wpQuiet_nil ?_
              rintro _ ⟨z0, rfl⟩
              go_wp2_with fail
              refine (rin_b _ _ _ _ T1.out).mono ?_
              rintro e w1 ⟨rfl, rfl⟩
              go_wp2_with fail
              refine (rin_b _ _ _ _ T2.out).mono ?_
              rintro e w1 ⟨rfl, rfl⟩
              go_wp2_with fail
              have CC := QA.out z0
              rw [T5.out] at CC
              refine (Calls.gw_of CC).mono ?_
              rintro e w1 ⟨rfl, z1, rfl⟩
              clear CC
              go_wp2_with fail
              have CC := QB.out z1
              rw [T6.out] at CC
              refine (Calls.gw_of CC).mono ?_
              rintro e w1 ⟨rfl, z2, rfl⟩
              clear CC
              go_wp2_with fail
              go_ret
              exact ⟨by rw [OKF.out]; rfl, HBc.out.gw z2⟩
          · have OKF := Lib.hid (show t.okB = false from t.okB_size (by unfold Tab.sizeB; rw [decide_eq_false h3]; simp))
            have E3 := ne_f h3
            clear h3
            go_enter Tryz.func4, Tryz.ntmps4
            go_upto_region 1 with (fail)
            rw [HWc.out]
            refine wp_region_gw (by kernel_rfl) (by kernel_rfl) ?_
            repeat (go_big_quiet_step (fail))
            refine wpQuiet_nil ?_
            rintro _ ⟨z0, rfl⟩
            go_wp2_with fail
            refine (rin_b _ _ _ _ T1.out).mono ?_
            rintro e w1 ⟨rfl, rfl⟩
            go_wp2_with fail
            refine (rin_b _ _ _ _ T2.out).mono ?_
            rintro e w1 ⟨rfl, rfl⟩
            go_wp2_with fail
            have CC := QA.out z0
            rw [T5.out] at CC
            refine (Calls.gw_of CC).mono ?_
            rintro e w1 ⟨rfl, z1, rfl⟩
            clear CC
            go_wp2_with fail
            have CC := QB.out z1
            rw [T6.out] at CC
            refine (Calls.gw_of CC).mono ?_
            rintro e w1 ⟨rfl, z2, rfl⟩
            clear CC
            go_wp2_with fail
            go_ret
            exact ⟨by rw [OKF.out]; rfl, HBc.out.gw z2⟩

set_option maxHeartbeats 1000000 in
theorem rTable_b {b : Bool} (t : Tab) (w : World) (hI : t.In w) (hf : t.nT ≤ 9223372036854775806 ∧ t.nS ≤ 9223372036854775806) (h : t.okB = b) :
    Calls Tryz.prog 4 #[t.val] w fun e w' => e = .returned (.bool b) ∧ Below w.heap.size w w' := h ▸ rTable_any t w hI hf

end Go.Proofs.YtjgnafhbeekebaaGreat.L1
