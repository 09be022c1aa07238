/- Contracts of the reference's test of a table. No conditions beyond each theorem's own. -/
import Derived.Test.YtohcopdfdmjhnaaSe
set_option linter.unusedVariables false
set_option linter.unusedSimpArgs false
set_option linter.unusedSectionVars false
set_option linter.constructorNameAsVariable false
namespace Go.Proofs.Ytohcopdfdmjhnaa.L1
open Go.RowKit
open Go.Proofs.Ytohcopdfdmjhnaa

attribute [local go_sem] gw_cell gw_frozen gw_size

theorem ne_t {a b : Nat} (h : a = b) : ((a : Int) != (b : Int)) = false := by simp [h]
theorem ne_f {a b : Nat} (h : ¬ a = b) : ((a : Int) != (b : Int)) = true := by simp; omega
theorem Tab.okB_size {t : Tab} (h : t.sizeB = false) : t.okB = false := by unfold Tab.okB; rw [h]; rfl
theorem Tab.okB_T {t : Tab} (h : risesB t.T t.nT (-500) 1000 = false) : t.okB = false := by unfold Tab.okB; rw [h]; simp
theorem Tab.okB_S {t : Tab} (h : risesB t.S t.nS 0 10000 = false) : t.okB = false := by unfold Tab.okB; rw [h]; simp
theorem Tab.okB_H {t : Tab} (h : allB t.H.n (t.H.hB t.nS) = false) : t.okB = false := by unfold Tab.okB; rw [h]; simp
theorem Tab.okB_R {t : Tab} (h : allB t.R.n (t.R.rB t.nS) = false) : t.okB = false := by unfold Tab.okB; rw [h]; simp
theorem Tab.okB_all {t : Tab} (h1 : t.sizeB = true) (h2 : risesB t.T t.nT (-500) 1000 = true) (h3 : risesB t.S t.nS 0 10000 = true) (h4 : allB t.H.n (t.H.hB t.nS) = true) (h5 : allB t.R.n (t.R.rB t.nS) = true) : t.okB = true := by
  unfold Tab.okB; rw [h1, h2, h3, h4, h5]; rfl

set_option maxRecDepth 100000 in
set_option maxHeartbeats 4000000 in
theorem rTable_any (t : Tab) (w : World) (hI : t.In w) (hf : t.Fits) :
    Calls Try.prog 17 #[t.val] w fun e w' => e = .returned (.bool t.okB) ∧ Below w.heap.size w w' := by
  unfold Tab.val
  obtain ⟨W1, hW1⟩ : ∃ W1, w.alloc (.cells #[.slice t.aT t.nT t.cT, .slice t.aS t.nS t.cS, .slice t.H.a t.H.n t.H.c, .slice t.R.a t.R.n t.R.c] 25) = W1 := ⟨_, rfl⟩
  have hBc : Below w.heap.size w W1 := by rw [← hW1]; exact below_alloc _ _
  have zc0 : W1.heap[w.heap.size]? = some (.cells #[.slice t.aT t.nT t.cT, .slice t.aS t.nS t.cS, .slice t.H.a t.H.n t.H.c, .slice t.R.a t.R.n t.R.c] 25 (0, 0)) := by rw [← hW1]; exact alloc_at rfl
  have c00 : W1.cell? ⟨w.heap.size, 0, none⟩ = some (.slice t.aT t.nT t.cT) := cell_of_block zc0 0 (by simp)
  have c01 : W1.cell? ⟨w.heap.size, 1, none⟩ = some (.slice t.aS t.nS t.cS) := cell_of_block zc0 1 (by simp)
  have c02 : W1.cell? ⟨w.heap.size, 2, none⟩ = some (.slice t.H.a t.H.n t.H.c) := cell_of_block zc0 2 (by simp)
  have c03 : W1.cell? ⟨w.heap.size, 3, none⟩ = some (.slice t.R.a t.R.n t.R.c) := cell_of_block zc0 3 (by simp)
  have lc0 := (Array.getElem?_eq_some_iff.1 zc0).1
  clear zc0
  have HBc := Lib.hid hBc; clear hBc
  have HWc := Lib.hid hW1; clear hW1
  have I1 := hI.below HBc.out
  have HI1 := Lib.hid I1
  have e0 := c00
  have e1 := c01
  have e2 := c02
  have e3 := c03
  clear c00 c01 c02 c03
  have fH := Lib.hid hf.H
  have fR := Lib.hid hf.R
  have QA := Lib.hid (fun x => rrises_any t.aT t.nT t.cT t.T (-500) 1000 (gw W1 x) (by have := hf.nT; omega) (I1.iT.below (below_gw W1 x)))
  have QB := Lib.hid (fun x => rrises_any t.aS t.nS t.cS t.S 0 10000 (gw W1 x) (by have := hf.nS; omega) (I1.iS.below (below_gw W1 x)))
  clear hI hf I1
  cases h1 : inB (t.nT : Int) 2 32 with
  | false =>
    have OKF := Lib.hid (show t.okB = false from t.okB_size (by unfold Tab.sizeB; rw [h1]; rfl))
    have T1 := Lib.hid h1; clear h1
    go_enter Try.func17, Try.ntmps17
    go_upto_region 1 with (fail)
    rw [HWc.out]
    refine wp_region_gw (by kernel_rfl) (by kernel_rfl) ?_
    repeat (go_big_quiet_step (fail))
    refine wpQuiet_nil ?_
    rintro _ ⟨z0, rfl⟩
    go_wp2_with fail
    refine (rin_b _ _ _ _ T1.out).mono ?_
    rintro e w1 ⟨rfl, rfl⟩
    go_wp2_with fail
    go_ret
    exact ⟨by rw [OKF.out]; rfl, HBc.out.gw z0⟩
  | true =>
    have T1 := Lib.hid h1; clear h1
    cases h2 : inB (t.nS : Int) 2 32 with
    | false =>
      have OKF := Lib.hid (show t.okB = false from t.okB_size (by unfold Tab.sizeB; rw [h2]; simp))
      have T2 := Lib.hid h2; clear h2
      go_enter Try.func17, Try.ntmps17
      go_upto_region 1 with (fail)
      rw [HWc.out]
      refine wp_region_gw (by kernel_rfl) (by kernel_rfl) ?_
      repeat (go_big_quiet_step (fail))
      refine wpQuiet_nil ?_
      rintro _ ⟨z0, rfl⟩
      go_wp2_with fail
      refine (rin_b _ _ _ _ T1.out).mono ?_
      rintro e w1 ⟨rfl, rfl⟩
      go_wp2_with fail
      refine (rin_b _ _ _ _ T2.out).mono ?_
      rintro e w1 ⟨rfl, rfl⟩
      go_wp2_with fail
      go_ret
      exact ⟨by rw [OKF.out]; rfl, HBc.out.gw z0⟩
    | true =>
      have T2 := Lib.hid h2; clear h2
      cases h5 : risesB t.T t.nT (-500) 1000 with
      | false =>
        have OKF := Lib.hid (show t.okB = false from t.okB_T h5)
        have T5 := Lib.hid h5; clear h5
        go_enter Try.func17, Try.ntmps17
        go_upto_region 1 with (fail)
        rw [HWc.out]
        refine wp_region_gw (by kernel_rfl) (by kernel_rfl) ?_
        repeat (go_big_quiet_step (fail))
        refine wpQuiet_nil ?_
        rintro _ ⟨z0, rfl⟩
        go_wp2_with fail
        refine (rin_b _ _ _ _ T1.out).mono ?_
        rintro e w1 ⟨rfl, rfl⟩
        go_wp2_with fail
        refine (rin_b _ _ _ _ T2.out).mono ?_
        rintro e w1 ⟨rfl, rfl⟩
        go_wp2_with fail
        have CC := QA.out z0
        rw [T5.out] at CC
        refine (Calls.gw_of CC).mono ?_
        rintro e w1 ⟨rfl, z1, rfl⟩
        clear CC
        go_wp2_with fail
        go_ret
        exact ⟨by rw [OKF.out]; rfl, HBc.out.gw z1⟩
      | true =>
        have T5 := Lib.hid h5; clear h5
        cases h6 : risesB t.S t.nS 0 10000 with
        | false =>
          have OKF := Lib.hid (show t.okB = false from t.okB_S h6)
          have T6 := Lib.hid h6; clear h6
          go_enter Try.func17, Try.ntmps17
          go_upto_region 1 with (fail)
          rw [HWc.out]
          refine wp_region_gw (by kernel_rfl) (by kernel_rfl) ?_
          repeat (go_big_quiet_step (fail))
          refine wpQuiet_nil ?_
          rintro _ ⟨z0, rfl⟩
          go_wp2_with fail
          refine (rin_b _ _ _ _ T1.out).mono ?_
          rintro e w1 ⟨rfl, rfl⟩
          go_wp2_with fail
          refine (rin_b _ _ _ _ T2.out).mono ?_
          rintro e w1 ⟨rfl, rfl⟩
          go_wp2_with fail
          have CC := QA.out z0
          rw [T5.out] at CC
          refine (Calls.gw_of CC).mono ?_
          rintro e w1 ⟨rfl, z1, rfl⟩
          clear CC
          go_wp2_with fail
          have CC := QB.out z1
          rw [T6.out] at CC
          refine (Calls.gw_of CC).mono ?_
          rintro e w1 ⟨rfl, z2, rfl⟩
          clear CC
          go_wp2_with fail
          go_ret
          exact ⟨by rw [OKF.out]; rfl, HBc.out.gw z2⟩
        | true =>
          have T6 := Lib.hid h6; clear h6
          by_cases h3 : t.H.n = t.nT
          · have E3 := ne_t h3
            have H3 := Lib.hid h3; clear h3
            by_cases h4 : t.R.n = t.nT
            · have E4 := ne_t h4
              have H4 := Lib.hid h4; clear h4
              have OKS := Lib.hid (show t.sizeB = true by unfold Tab.sizeB; rw [T1.out, T2.out, decide_eq_true H3.out, decide_eq_true H4.out]; rfl)
              have k32 := (inB_t.1 T1.out).2
              have l32 := (inB_t.1 T2.out).2
              go_enter Try.func17, Try.ntmps17
              go_upto_region 1 with (fail)
              rw [HWc.out]
              refine wp_region_gw (by kernel_rfl) (by kernel_rfl) ?_
              repeat (go_big_quiet_step (fail))
              refine wpQuiet_nil ?_
              rintro _ ⟨z0, rfl⟩
              go_wp2_with fail
              refine (rin_b _ _ _ _ T1.out).mono ?_
              rintro e w1 ⟨rfl, rfl⟩
              go_wp2_with fail
              refine (rin_b _ _ _ _ T2.out).mono ?_
              rintro e w1 ⟨rfl, rfl⟩
              go_wp2_with fail
              have CC := QA.out z0
              rw [T5.out] at CC
              refine (Calls.gw_of CC).mono ?_
              rintro e w1 ⟨rfl, z1, rfl⟩
              clear CC
              go_wp2_with fail
              have CC := QB.out z1
              rw [T6.out] at CC
              refine (Calls.gw_of CC).mono ?_
              rintro e w1 ⟨rfl, z2, rfl⟩
              clear CC
              go_wp2_with fail
              go_loopw [5] (fun s wr => ∃ k : Nat, k ≤ t.nT ∧ s = .int .i64 k ∧ Hid (∀ i, i < k → (t.H.hB t.nS i && t.R.rB t.nS i) = true) ∧ ∃ x, wr = gw W1 x) (fun s _ => t.nT - (intOf s).toNat)
              case atStart => exact ⟨0, Nat.zero_le _, rfl, Lib.hid (fun i hi => by omega), z2, rfl⟩
              case round =>
                obtain ⟨k, hk, rfl, hall, x, rfl⟩ := hrel
                by_cases hlt : k < t.nT
                · rcases HI1.out.iH.cells with h0 | ⟨bH, oH, eH, lH, cH⟩
                  · have := H3.out; omega
                  rcases HI1.out.iR.cells with h0 | ⟨bR, oR, eR, lR, cR⟩
                  · have := H4.out; omega
                  have x1 := cH k (by have := H3.out; have := H4.out; omega)
                  have x2 := cR k (by have := H3.out; have := H4.out; omega)
                  have kH : k < t.H.n := by have := H3.out; omega
                  have kR : k < t.R.n := by have := H4.out; omega
                  unfold Rows.row at x1 x2
                  rw [eH] at e2
                  rw [eR] at e3
                  clear eH eR
                  clear cH cR
                  have QR := Lib.hid (rrises_any (t.H.rA k) (t.H.rN k) (t.H.rC k) (t.H.M k) (-10000) 20000 (gw W1 x) (fH.out.row k (by have := H3.out; have := H4.out; omega)) ((HI1.out.iH.rows k (by have := H3.out; have := H4.out; omega)).below (below_gw W1 x)))
                  by_cases g1 : t.H.rN k = t.nS
                  · by_cases g2 : t.R.rN k = t.nS
                    · have F1 := ne_t g1
                      have F2 := ne_t g2
                      cases g3 : risesB (t.H.M k) (t.H.rN k) (-10000) 20000 with
                      | false =>
                        rw [g3] at QR
                        have OKF := Lib.hid (show t.okB = false from t.okB_H (allB_f (j := k) (by have := H3.out; have := H4.out; omega) (by unfold Rows.hB; rw [g3]; simp)))
                        clear g1 g2 g3
                        go_wp2_with fail
                        refine (Calls.gw_of QR.out).mono ?_
                        rintro e w1 ⟨rfl, y, rfl⟩
                        go_wp2_with fail
                        go_ret
                        exact ⟨by rw [OKF.out]; rfl, HBc.out.gw y⟩
                      | true =>
                        rw [g3] at QR
                        have HH := Lib.hid (show t.H.hB t.nS k = true by unfold Rows.hB; rw [g3, decide_eq_true g1]; rfl)
                        have G2 := Lib.hid g2
                        clear g1 g2 g3
                        go_wp2_with fail
                        refine (Calls.gw_of QR.out).mono ?_
                        rintro e w1 ⟨rfl, y, rfl⟩
                        go_wp2_with fail
                        clear QR
                        go_loopw [6] (fun s wr => ∃ j : Nat, j ≤ t.nS ∧ s = .int .i64 j ∧ Hid (∀ i, i < j → inB (t.R.M k i) 900000 1100000 = true) ∧ ∃ x, wr = gw W1 x) (fun s _ => t.nS - (intOf s).toNat)
                        case atStart => exact ⟨0, Nat.zero_le _, rfl, Lib.hid (fun i hi => by omega), y, rfl⟩
                        case round =>
                          obtain ⟨j, hj, rfl, hal2, x5, rfl⟩ := hrel
                          by_cases hl2 : j < t.nS
                          · rcases HI1.out.iR.rows k (by have := H3.out; have := H4.out; omega) with h0 | ⟨b2, o2, e5, l2, c2⟩
                            · have := G2.out; omega
                            have y1 := c2 j (by have := G2.out; omega)
                            have jR : j < t.R.rN k := by have := G2.out; omega
                            rw [e5] at x2
                            clear e5
                            clear c2
                            cases g4 : inB (t.R.M k j) 900000 1100000 with
                            | false =>
                              have OKF := Lib.hid (show t.okB = false from t.okB_R (allB_f (j := k) (by have := H3.out; have := H4.out; omega) (by unfold Rows.rB; rw [allB_f (j := j) (by omega) g4]; simp)))
                              have T4 := Lib.hid g4
                              clear g4
                              go_wp2_with fail
                              refine (rin_b _ _ _ _ T4.out).mono ?_
                              rintro e w1 ⟨rfl, rfl⟩
                              go_wp2_with fail
                              go_ret
                              exact ⟨by rw [OKF.out]; rfl, HBc.out.gw x5⟩
                            | true =>
                              have T4 := Lib.hid g4
                              clear g4
                              go_wp2_with fail
                              refine (rin_b _ _ _ _ T4.out).mono ?_
                              rintro e w1 ⟨rfl, rfl⟩
                              go_wp2_with fail
                              go_roundw
                              case rel => exact ⟨j + 1, by omega, by go_num, Lib.hid (all_succ (P := fun i => inB (t.R.M k i) 900000 1100000 = true) hal2.out T4.out), x5, rfl⟩
                              case measure => simp [intOf]; omega
                          · obtain rfl : t.nS = j := by omega
                            have HR := Lib.hid (show t.R.rB t.nS k = true by unfold Rows.rB; rw [decide_eq_true G2.out, G2.out]; exact allB_t.2 hal2.out)
                            go_wp2_with fail
                            go_roundw
                            case rel => exact ⟨k + 1, by omega, by go_num, Lib.hid (all_succ (P := fun i => (t.H.hB t.nS i && t.R.rB t.nS i) = true) hall.out (by rw [HH.out, HR.out]; rfl)), x5, rfl⟩
                            case measure => simp [intOf]; omega
                    · have F1 := ne_t g1
                      have F2 := ne_f g2
                      have OKF := Lib.hid (show t.okB = false from t.okB_R (allB_f (j := k) (by have := H3.out; have := H4.out; omega) (by unfold Rows.rB; rw [decide_eq_false g2]; rfl)))
                      clear g1 g2 QR
                      go_wp2_with fail
                      go_ret
                      exact ⟨by rw [OKF.out]; rfl, HBc.out.gw x⟩
                  · have F1 := ne_f g1
                    have OKF := Lib.hid (show t.okB = false from t.okB_H (allB_f (j := k) (by have := H3.out; have := H4.out; omega) (by unfold Rows.hB; rw [decide_eq_false g1]; rfl)))
                    clear g1 QR
                    go_wp2_with fail
                    go_ret
                    exact ⟨by rw [OKF.out]; rfl, HBc.out.gw x⟩
                · have OKT := Lib.hid (show t.okB = true from by
                    have ha := hall.out
                    simp only [Bool.and_eq_true] at ha
                    exact t.okB_all OKS.out T5.out T6.out (allB_t.2 fun i hi => (ha i (by have := H3.out; omega)).1) (allB_t.2 fun i hi => (ha i (by have := H4.out; omega)).2))
                  obtain rfl : k = t.nT := by omega
                  go_wp2_with fail
                  go_ret
                  exact ⟨by rw [OKT.out]; rfl, HBc.out.gw x⟩
            · have OKF := Lib.hid (show t.okB = false from t.okB_size (by unfold Tab.sizeB; rw [decide_eq_false h4]; simp))
              have E4 := ne_f h4
              clear h4
              go_enter Try.func17, Try.ntmps17
              go_upto_region 1 with (fail)
              rw [HWc.out]
              refine wp_region_gw (by kernel_rfl) (by kernel_rfl) ?_
              repeat (go_big_quiet_step (fail))
              refine wpQuiet_nil ?_
              rintro _ ⟨z0, rfl⟩
              go_wp2_with fail
              refine (rin_b _ _ _ _ T1.out).mono ?_
              rintro e w1 ⟨rfl, rfl⟩
              go_wp2_with fail
              refine (rin_b _ _ _ _ T2.out).mono ?_
              rintro e w1 ⟨rfl, rfl⟩
              go_wp2_with fail
              have CC := QA.out z0
              rw [T5.out] at CC
              refine (Calls.gw_of CC).mono ?_
              rintro e w1 ⟨rfl, z1, rfl⟩
              clear CC
              go_wp2_with fail
              have CC := QB.out z1
              rw [T6.out] at CC
              refine (Calls.gw_of CC).mono ?_
              rintro e w1 ⟨rfl, z2, rfl⟩
              clear CC
              go_wp2_with fail
              go_ret
              exact ⟨by rw [OKF.out]; rfl, HBc.out.gw z2⟩
          · have OKF := Lib.hid (show t.okB = false from t.okB_size (by unfold Tab.sizeB; rw [decide_eq_false h3]; simp))
            have E3 := ne_f h3
            clear h3
            go_enter Try.func17, Try.ntmps17
            go_upto_region 1 with (fail)
            rw [HWc.out]
            refine wp_region_gw (by kernel_rfl) (by kernel_rfl) ?_
            repeat (go_big_quiet_step (fail))
            refine wpQuiet_nil ?_
            rintro _ ⟨z0, rfl⟩
            go_wp2_with fail
            refine (rin_b _ _ _ _ T1.out).mono ?_
            rintro e w1 ⟨rfl, rfl⟩
            go_wp2_with fail
            refine (rin_b _ _ _ _ T2.out).mono ?_
            rintro e w1 ⟨rfl, rfl⟩
            go_wp2_with fail
            have CC := QA.out z0
            rw [T5.out] at CC
            refine (Calls.gw_of CC).mono ?_
            rintro e w1 ⟨rfl, z1, rfl⟩
            clear CC
            go_wp2_with fail
            have CC := QB.out z1
            rw [T6.out] at CC
            refine (Calls.gw_of CC).mono ?_
            rintro e w1 ⟨rfl, z2, rfl⟩
            clear CC
            go_wp2_with fail
            go_ret
            exact ⟨by rw [OKF.out]; rfl, HBc.out.gw z2⟩

set_option maxHeartbeats 1000000 in
theorem rTable_b {b : Bool} (t : Tab) (w : World) (hI : t.In w) (hf : t.Fits) (h : t.okB = b) :
    Calls Try.prog 17 #[t.val] w fun e w' => e = .returned (.bool b) ∧ Below w.heap.size w w' := h ▸ rTable_any t w hI hf

set_option maxHeartbeats 1000000 in
theorem rCheck_any (t : Tab) (w : World) (hI : t.In w) (hf : t.Fits) :
    Calls Try.prog 29 #[t.val] w fun e w' => e = .returned (.int .i64 (if t.okB = true then 0 else 1)) ∧ Below w.heap.size w w' := by
  obtain ⟨W1, hW1⟩ : ∃ W1, w.alloc (.cells #[.slice t.aT t.nT t.cT, .slice t.aS t.nS t.cS, .slice t.H.a t.H.n t.H.c, .slice t.R.a t.R.n t.R.c] 25) = W1 := ⟨_, rfl⟩
  have hBc : Below w.heap.size w W1 := by rw [← hW1]; exact below_alloc _ _
  have zc0 : W1.heap[w.heap.size]? = some (.cells #[.slice t.aT t.nT t.cT, .slice t.aS t.nS t.cS, .slice t.H.a t.H.n t.H.c, .slice t.R.a t.R.n t.R.c] 25 (0, 0)) := by rw [← hW1]; exact alloc_at rfl
  have c00 : W1.cell? ⟨w.heap.size, 0, none⟩ = some (.slice t.aT t.nT t.cT) := cell_of_block zc0 0 (by simp)
  have c01 : W1.cell? ⟨w.heap.size, 1, none⟩ = some (.slice t.aS t.nS t.cS) := cell_of_block zc0 1 (by simp)
  have c02 : W1.cell? ⟨w.heap.size, 2, none⟩ = some (.slice t.H.a t.H.n t.H.c) := cell_of_block zc0 2 (by simp)
  have c03 : W1.cell? ⟨w.heap.size, 3, none⟩ = some (.slice t.R.a t.R.n t.R.c) := cell_of_block zc0 3 (by simp)
  have lc0 := (Array.getElem?_eq_some_iff.1 zc0).1
  clear zc0
  have HBc := Lib.hid hBc; clear hBc
  have HWc := Lib.hid hW1; clear hW1
  have HT := Lib.hid (rTable_any t W1 (hI.below HBc.out) hf)
  clear hI hf
  unfold Tab.val at HT ⊢
  cases h : t.okB
  all_goals
    rw [h] at HT
    clear h
    go_enter Try.func29, Try.ntmps29
    go_upto_region 1 with (fail)
    rw [HWc.out]
    go_wp2_with fail
    refine HT.out.mono ?_
    rintro e w1 ⟨rfl, hb⟩
    go_wp2_with fail
    go_ret
    exact ⟨rfl, thru hb HBc.out⟩
end Go.Proofs.Ytohcopdfdmjhnaa.L1
