/- Contract of Hour (reference). No conditions beyond each theorem's own. -/
import Derived.Test.YtecbacbecopbeaaCa
import Derived.Test.YtecbacbecopbeaaBy
import Derived.Test.YtecbacbecopbeaaBo
set_option linter.unusedVariables false
set_option linter.unusedSimpArgs false
set_option linter.unusedSectionVars false
set_option linter.constructorNameAsVariable false
namespace Go.Proofs.Ytecbacbecopbeaa
open Go.RowKit

attribute [local go_sem] gw_cell gw_frozen gw_size

theorem hourE_eq (y : Yst) (v : Vat) (cl ch : Int) : hourE y v cl ch = if ystB y = true ∧ vatB v = true ∧ spanB cl ch 0 150000 = true then (if vatB (y.hour v cl ch) = true then 0 else 12) else 1 := by
  have e1 : allB 1 (inSp 150000 (fun _ => cl) (fun _ => ch)) = spanB cl ch 0 150000 := by
    have e : List.range 1 = [0] := rfl
    simp [allB, e, inSp]
  have e2 : y.stop v (fun _ => cl) (fun _ => ch) 1 = if vatB (y.hour v cl ch) = true then 1 else 0 := by
    show (if okN _ 0 = 0 ∧ vatB (y.hour v cl ch) = true then 0 + 1 else okN _ 0) = _
    by_cases h : vatB (y.hour v cl ch) = true
    · rw [if_pos ⟨rfl, h⟩, if_pos h]
    · rw [if_neg (fun h' => h h'.2), if_neg h]; rfl
  unfold hourE ferE
  rw [e1, e2, if_neg (by omega)]
  by_cases h : vatB (y.hour v cl ch) = true
  · simp [h]
  · simp [h]
theorem hour_bad {y : Yst} {v : Vat} {cl ch : Int} (h : ¬ (ystB y = true ∧ vatB v = true ∧ spanB cl ch 0 150000 = true)) : hourE y v cl ch = 1 ∧ hourV y v cl ch = zeroVat := by
  have e : hourE y v cl ch = 1 := by rw [hourE_eq, if_neg h]
  exact ⟨e, by unfold hourV; rw [e]; rfl⟩
theorem hour_over {y : Yst} {v : Vat} {cl ch : Int} (h : ystB y = true ∧ vatB v = true ∧ spanB cl ch 0 150000 = true) (h2 : vatB (y.hour v cl ch) = false) : hourE y v cl ch = 12 ∧ hourV y v cl ch = zeroVat := by
  have e : hourE y v cl ch = 12 := by rw [hourE_eq, if_pos h, h2]; rfl
  exact ⟨e, by unfold hourV; rw [e]; rfl⟩
theorem hour_fine {y : Yst} {v : Vat} {cl ch : Int} (h : ystB y = true ∧ vatB v = true ∧ spanB cl ch 0 150000 = true) (h2 : vatB (y.hour v cl ch) = true) : hourE y v cl ch = 0 ∧ hourV y v cl ch = y.hour v cl ch := by
  have e : hourE y v cl ch = 0 := by rw [hourE_eq, if_pos h, h2]; rfl
  exact ⟨e, by unfold hourV; rw [if_pos e]⟩

set_option maxRecDepth 100000 in
set_option maxHeartbeats 8000000 in
theorem rHour_any (y : Yst) (v : Vat) (cl ch : Int) (w : World) (hI : y.In w) (hf : y.Fits) :
    Calls Try.prog 35 #[y.val, v.val, .agg #[.int .i64 cl, .int .i64 ch]] w fun e w' => e = .returned (.tuple #[(hourV y v cl ch).val, .int .i64 (hourE y v cl ch)]) ∧ Below w.heap.size w w' := by
  rw [show y.val = .agg #[.slice y.aT y.nT y.cT, .slice y.aR y.nR y.cR, .int .i64 y.sl, .int .i64 y.sh, .int .i64 y.gl, .int .i64 y.gh, .int .i64 y.hl, .int .i64 y.hh] from rfl, show v.val = .agg #[.int .i64 v.sl, .int .i64 v.sh, .int .i64 v.el, .int .i64 v.eh, .int .i64 v.pl, .int .i64 v.ph, .int .i64 v.gl, .int .i64 v.gh, .int .i64 v.ol, .int .i64 v.oh, .int .i64 v.tl, .int .i64 v.th, .int .i64 v.c] from rfl]
  obtain ⟨W1, hW1⟩ : ∃ W1, (((w.alloc (.cells #[.slice y.aT y.nT y.cT, .slice y.aR y.nR y.cR, .int .i64 y.sl, .int .i64 y.sh, .int .i64 y.gl, .int .i64 y.gh, .int .i64 y.hl, .int .i64 y.hh] 36)).alloc (.cells #[.int .i64 v.sl, .int .i64 v.sh, .int .i64 v.el, .int .i64 v.eh, .int .i64 v.pl, .int .i64 v.ph, .int .i64 v.gl, .int .i64 v.gh, .int .i64 v.ol, .int .i64 v.oh, .int .i64 v.tl, .int .i64 v.th, .int .i64 v.c] 38)).alloc (.cells #[.int .i64 cl, .int .i64 ch] 23)).alloc (.cells #[.int .i64 0, .int .i64 0, .int .i64 0, .int .i64 0, .int .i64 0, .int .i64 0, .int .i64 0, .int .i64 0, .int .i64 0, .int .i64 0, .int .i64 0, .int .i64 0, .int .i64 0] 38) = W1 := ⟨_, rfl⟩
  have hBc : Below w.heap.size w W1 := by rw [← hW1]; exact (((below_alloc _ _).alloc (by simp) _).alloc (by simp <;> omega) _).alloc (by simp <;> omega) _
  have zc0 : W1.heap[w.heap.size]? = some (.cells #[.slice y.aT y.nT y.cT, .slice y.aR y.nR y.cR, .int .i64 y.sl, .int .i64 y.sh, .int .i64 y.gl, .int .i64 y.gh, .int .i64 y.hl, .int .i64 y.hh] 36 (0, 0)) := by rw [← hW1]; exact alloc_keep (alloc_keep (alloc_keep (alloc_at rfl)))
  have zc1 : W1.heap[w.heap.size + 1]? = some (.cells #[.int .i64 v.sl, .int .i64 v.sh, .int .i64 v.el, .int .i64 v.eh, .int .i64 v.pl, .int .i64 v.ph, .int .i64 v.gl, .int .i64 v.gh, .int .i64 v.ol, .int .i64 v.oh, .int .i64 v.tl, .int .i64 v.th, .int .i64 v.c] 38 (0, 0)) := by rw [← hW1]; exact alloc_keep (alloc_keep (alloc_at (by simp)))
  have zc2 : W1.heap[w.heap.size + 1 + 1]? = some (.cells #[.int .i64 cl, .int .i64 ch] 23 (0, 0)) := by rw [← hW1]; exact alloc_keep (alloc_at (by simp <;> omega))
  have zc3 : W1.heap[w.heap.size + 1 + 1 + 1]? = some (.cells #[.int .i64 0, .int .i64 0, .int .i64 0, .int .i64 0, .int .i64 0, .int .i64 0, .int .i64 0, .int .i64 0, .int .i64 0, .int .i64 0, .int .i64 0, .int .i64 0, .int .i64 0] 38 (0, 0)) := by rw [← hW1]; exact alloc_at (by simp <;> omega)
  have c00 : W1.cell? ⟨w.heap.size, 0, none⟩ = some (.slice y.aT y.nT y.cT) := cell_of_block zc0 0 (by simp)
  have c01 : W1.cell? ⟨w.heap.size, 1, none⟩ = some (.slice y.aR y.nR y.cR) := cell_of_block zc0 1 (by simp)
  have c02 : W1.cell? ⟨w.heap.size, 2, none⟩ = some (.int .i64 y.sl) := cell_of_block zc0 2 (by simp)
  have c03 : W1.cell? ⟨w.heap.size, 3, none⟩ = some (.int .i64 y.sh) := cell_of_block zc0 3 (by simp)
  have c04 : W1.cell? ⟨w.heap.size, 4, none⟩ = some (.int .i64 y.gl) := cell_of_block zc0 4 (by simp)
  have c05 : W1.cell? ⟨w.heap.size, 5, none⟩ = some (.int .i64 y.gh) := cell_of_block zc0 5 (by simp)
  have c06 : W1.cell? ⟨w.heap.size, 6, none⟩ = some (.int .i64 y.hl) := cell_of_block zc0 6 (by simp)
  have c07 : W1.cell? ⟨w.heap.size, 7, none⟩ = some (.int .i64 y.hh) := cell_of_block zc0 7 (by simp)
  have c10 : W1.cell? ⟨w.heap.size + 1, 0, none⟩ = some (.int .i64 v.sl) := cell_of_block zc1 0 (by simp)
  have c11 : W1.cell? ⟨w.heap.size + 1, 1, none⟩ = some (.int .i64 v.sh) := cell_of_block zc1 1 (by simp)
  have c12 : W1.cell? ⟨w.heap.size + 1, 2, none⟩ = some (.int .i64 v.el) := cell_of_block zc1 2 (by simp)
  have c13 : W1.cell? ⟨w.heap.size + 1, 3, none⟩ = some (.int .i64 v.eh) := cell_of_block zc1 3 (by simp)
  have c14 : W1.cell? ⟨w.heap.size + 1, 4, none⟩ = some (.int .i64 v.pl) := cell_of_block zc1 4 (by simp)
  have c15 : W1.cell? ⟨w.heap.size + 1, 5, none⟩ = some (.int .i64 v.ph) := cell_of_block zc1 5 (by simp)
  have c16 : W1.cell? ⟨w.heap.size + 1, 6, none⟩ = some (.int .i64 v.gl) := cell_of_block zc1 6 (by simp)
  have c17 : W1.cell? ⟨w.heap.size + 1, 7, none⟩ = some (.int .i64 v.gh) := cell_of_block zc1 7 (by simp)
  have c18 : W1.cell? ⟨w.heap.size + 1, 8, none⟩ = some (.int .i64 v.ol) := cell_of_block zc1 8 (by simp)
  have c19 : W1.cell? ⟨w.heap.size + 1, 9, none⟩ = some (.int .i64 v.oh) := cell_of_block zc1 9 (by simp)
  have c110 : W1.cell? ⟨w.heap.size + 1, 10, none⟩ = some (.int .i64 v.tl) := cell_of_block zc1 10 (by simp)
  have c111 : W1.cell? ⟨w.heap.size + 1, 11, none⟩ = some (.int .i64 v.th) := cell_of_block zc1 11 (by simp)
  have c112 : W1.cell? ⟨w.heap.size + 1, 12, none⟩ = some (.int .i64 v.c) := cell_of_block zc1 12 (by simp)
  have c20 : W1.cell? ⟨w.heap.size + 1 + 1, 0, none⟩ = some (.int .i64 cl) := cell_of_block zc2 0 (by simp)
  have c21 : W1.cell? ⟨w.heap.size + 1 + 1, 1, none⟩ = some (.int .i64 ch) := cell_of_block zc2 1 (by simp)
  have c30 : W1.cell? ⟨w.heap.size + 1 + 1 + 1, 0, none⟩ = some (.int .i64 0) := cell_of_block zc3 0 (by simp)
  have c31 : W1.cell? ⟨w.heap.size + 1 + 1 + 1, 1, none⟩ = some (.int .i64 0) := cell_of_block zc3 1 (by simp)
  have c32 : W1.cell? ⟨w.heap.size + 1 + 1 + 1, 2, none⟩ = some (.int .i64 0) := cell_of_block zc3 2 (by simp)
  have c33 : W1.cell? ⟨w.heap.size + 1 + 1 + 1, 3, none⟩ = some (.int .i64 0) := cell_of_block zc3 3 (by simp)
  have c34 : W1.cell? ⟨w.heap.size + 1 + 1 + 1, 4, none⟩ = some (.int .i64 0) := cell_of_block zc3 4 (by simp)
  have c35 : W1.cell? ⟨w.heap.size + 1 + 1 + 1, 5, none⟩ = some (.int .i64 0) := cell_of_block zc3 5 (by simp)
  have c36 : W1.cell? ⟨w.heap.size + 1 + 1 + 1, 6, none⟩ = some (.int .i64 0) := cell_of_block zc3 6 (by simp)
  have c37 : W1.cell? ⟨w.heap.size + 1 + 1 + 1, 7, none⟩ = some (.int .i64 0) := cell_of_block zc3 7 (by simp)
  have c38 : W1.cell? ⟨w.heap.size + 1 + 1 + 1, 8, none⟩ = some (.int .i64 0) := cell_of_block zc3 8 (by simp)
  have c39 : W1.cell? ⟨w.heap.size + 1 + 1 + 1, 9, none⟩ = some (.int .i64 0) := cell_of_block zc3 9 (by simp)
  have c310 : W1.cell? ⟨w.heap.size + 1 + 1 + 1, 10, none⟩ = some (.int .i64 0) := cell_of_block zc3 10 (by simp)
  have c311 : W1.cell? ⟨w.heap.size + 1 + 1 + 1, 11, none⟩ = some (.int .i64 0) := cell_of_block zc3 11 (by simp)
  have c312 : W1.cell? ⟨w.heap.size + 1 + 1 + 1, 12, none⟩ = some (.int .i64 0) := cell_of_block zc3 12 (by simp)
  have lc0 := (Array.getElem?_eq_some_iff.1 zc0).1
  have lc1 := (Array.getElem?_eq_some_iff.1 zc1).1
  have lc2 := (Array.getElem?_eq_some_iff.1 zc2).1
  have lc3 := (Array.getElem?_eq_some_iff.1 zc3).1
  have fc30 := frozen_of_block zc3 0
  have fc31 := frozen_of_block zc3 1
  have fc32 := frozen_of_block zc3 2
  have fc33 := frozen_of_block zc3 3
  have fc34 := frozen_of_block zc3 4
  have fc35 := frozen_of_block zc3 5
  have fc36 := frozen_of_block zc3 6
  have fc37 := frozen_of_block zc3 7
  have fc38 := frozen_of_block zc3 8
  have fc39 := frozen_of_block zc3 9
  have fc310 := frozen_of_block zc3 10
  have fc311 := frozen_of_block zc3 11
  have fc312 := frozen_of_block zc3 12
  have Zc0 := Lib.hid zc0
  have Zc1 := Lib.hid zc1
  have Zc2 := Lib.hid zc2
  have Zc3 := Lib.hid zc3
  clear zc0 zc1 zc2 zc3
  have HBc := Lib.hid hBc; clear hBc
  have HWc := Lib.hid hW1; clear hW1
  have YB := Lib.hid (fun W (b : Bool) (hb : Below W1.heap.size W1 W) (h : ystB y = b) => rYeast_b y W ((hI.below HBc.out).below hb) hf h)
  unfold Yst.val at YB
  have VB := Lib.hid (fun W (x : Vat) (b : Bool) (h : vatB x = b) => rVat_b x W h)
  unfold Vat.val at VB
  have CB := Lib.hid (fun W (b : Bool) (h : spanB cl ch 0 150000 = b) => h ▸ rcool_any cl ch W)
  have HR := Lib.hid (fun W (hb : Below W1.heap.size W1 W) (h1 : ystB y = true) (h2 : vatB v = true) (h3 : spanB cl ch 0 150000 = true) => rhour_any y v cl ch W ((hI.below HBc.out).below hb) hf h1 h2 (spanB_t.1 h3).1 (spanB_t.1 h3).2.1 (spanB_t.1 h3).2.2)
  clear hI
  cases h1 : ystB y with
  | false =>
    obtain ⟨he, hv⟩ := hour_bad (y := y) (v := v) (cl := cl) (ch := ch) (by simp [h1])
    rw [he, hv]
    clear he hv
    have H1 := Lib.hid h1; clear h1
    go_enter Try.func35, Try.ntmps35
    go_upto_region 1 with (fail)
    rw [HWc.out]
    go_wp2_with fail
    refine (Calls.grown (YB.out _ _ (Below.refl _ _) H1.out)).mono ?_
    rintro e w1 ⟨rfl, z1, rfl⟩
    go_wp2_with fail
    refine bodyPost_ret (v := .tuple #[.agg #[.int .i64 0, .int .i64 0, .int .i64 0, .int .i64 0, .int .i64 0, .int .i64 0, .int .i64 0, .int .i64 0, .int .i64 0, .int .i64 0, .int .i64 0, .int .i64 0, .int .i64 0], .int .i64 1]) (by simp [results, Try.results35, go_sem, *]) rfl ⟨rfl, ?_⟩
    exact setAll_below (HBc.out.gw z1) (HBc.out.gw z1).size (by omega) [.int .i64 0, .int .i64 0, .int .i64 0, .int .i64 0, .int .i64 0, .int .i64 0, .int .i64 0, .int .i64 0, .int .i64 0, .int .i64 0, .int .i64 0, .int .i64 0, .int .i64 0] 0
  | true =>
    cases h2 : vatB v with
    | false =>
      obtain ⟨he, hv⟩ := hour_bad (y := y) (v := v) (cl := cl) (ch := ch) (by simp [h1, h2])
      rw [he, hv]
      clear he hv
      have H1 := Lib.hid h1; clear h1
      have H2 := Lib.hid h2; clear h2
      go_enter Try.func35, Try.ntmps35
      go_upto_region 1 with (fail)
      rw [HWc.out]
      go_wp2_with fail
      refine (Calls.grown (YB.out _ _ (Below.refl _ _) H1.out)).mono ?_
      rintro e w1 ⟨rfl, z1, rfl⟩
      go_wp2_with fail
      refine (Calls.gw_of (VB.out _ v _ H2.out)).mono ?_
      rintro e w1 ⟨rfl, z2, rfl⟩
      go_wp2_with fail
      refine bodyPost_ret (v := .tuple #[.agg #[.int .i64 0, .int .i64 0, .int .i64 0, .int .i64 0, .int .i64 0, .int .i64 0, .int .i64 0, .int .i64 0, .int .i64 0, .int .i64 0, .int .i64 0, .int .i64 0, .int .i64 0], .int .i64 1]) (by simp [results, Try.results35, go_sem, *]) rfl ⟨rfl, ?_⟩
      exact setAll_below (HBc.out.gw z2) (HBc.out.gw z2).size (by omega) [.int .i64 0, .int .i64 0, .int .i64 0, .int .i64 0, .int .i64 0, .int .i64 0, .int .i64 0, .int .i64 0, .int .i64 0, .int .i64 0, .int .i64 0, .int .i64 0, .int .i64 0] 0
    | true =>
      cases h3 : spanB cl ch 0 150000 with
      | false =>
        obtain ⟨he, hv⟩ := hour_bad (y := y) (v := v) (cl := cl) (ch := ch) (by simp [h1, h2, h3])
        rw [he, hv]
        clear he hv
        have H1 := Lib.hid h1; clear h1
        have H2 := Lib.hid h2; clear h2
        have H3 := Lib.hid h3; clear h3
        go_enter Try.func35, Try.ntmps35
        go_upto_region 1 with (fail)
        rw [HWc.out]
        go_wp2_with fail
        refine (Calls.grown (YB.out _ _ (Below.refl _ _) H1.out)).mono ?_
        rintro e w1 ⟨rfl, z1, rfl⟩
        go_wp2_with fail
        refine (Calls.gw_of (VB.out _ v _ H2.out)).mono ?_
        rintro e w1 ⟨rfl, z2, rfl⟩
        go_wp2_with fail
        refine (Calls.gw_of (CB.out _ _ H3.out)).mono ?_
        rintro e w1 ⟨rfl, z3, rfl⟩
        go_wp2_with fail
        refine bodyPost_ret (v := .tuple #[.agg #[.int .i64 0, .int .i64 0, .int .i64 0, .int .i64 0, .int .i64 0, .int .i64 0, .int .i64 0, .int .i64 0, .int .i64 0, .int .i64 0, .int .i64 0, .int .i64 0, .int .i64 0], .int .i64 1]) (by simp [results, Try.results35, go_sem, *]) rfl ⟨rfl, ?_⟩
        exact setAll_below (HBc.out.gw z3) (HBc.out.gw z3).size (by omega) [.int .i64 0, .int .i64 0, .int .i64 0, .int .i64 0, .int .i64 0, .int .i64 0, .int .i64 0, .int .i64 0, .int .i64 0, .int .i64 0, .int .i64 0, .int .i64 0, .int .i64 0] 0
      | true =>
        cases h4 : vatB (y.hour v cl ch) with
        | false =>
          obtain ⟨he, hv⟩ := hour_over ⟨h1, h2, h3⟩ h4
          rw [he, hv]
          clear he hv
          skip
          have H1 := Lib.hid h1; clear h1
          have H2 := Lib.hid h2; clear h2
          have H3 := Lib.hid h3; clear h3
          obtain ⟨H, hH⟩ : ∃ H, y.hour v cl ch = H := ⟨_, rfl⟩
          rw [hH] at h4
          have HRR := fun W hb => HR.out W hb H1.out H2.out H3.out
          simp only [hH] at HRR
          unfold Vat.val at HRR
          have HR2 := Lib.hid HRR; have H4 := Lib.hid h4; clear HRR h4 hH
          go_enter Try.func35, Try.ntmps35
          go_upto_region 1 with (fail)
          rw [HWc.out]
          go_wp2_with fail
          refine (Calls.grown (YB.out _ _ (Below.refl _ _) H1.out)).mono ?_
          rintro e w1 ⟨rfl, z1, rfl⟩
          go_wp2_with fail
          refine (Calls.gw_of (VB.out _ v _ H2.out)).mono ?_
          rintro e w1 ⟨rfl, z2, rfl⟩
          go_wp2_with fail
          refine (Calls.gw_of (CB.out _ _ H3.out)).mono ?_
          rintro e w1 ⟨rfl, z3, rfl⟩
          go_wp2_with fail
          refine (Calls.gw_of (HR2.out _ (below_gw W1 z3))).mono ?_
          rintro e w1 ⟨rfl, z4, rfl⟩
          go_upto_region 4 with (fail)
          obtain ⟨W2, hW2⟩ : ∃ W2, ((gw W1 z4)).alloc (.cells #[.int .i64 H.sl, .int .i64 H.sh, .int .i64 H.el, .int .i64 H.eh, .int .i64 H.pl, .int .i64 H.ph, .int .i64 H.gl, .int .i64 H.gh, .int .i64 H.ol, .int .i64 H.oh, .int .i64 H.tl, .int .i64 H.th, .int .i64 H.c] 38) = W2 := ⟨_, rfl⟩
          have hbW2 : Below W1.heap.size W1 W2 := by rw [← hW2]; exact (below_gw W1 z4).alloc (by simp [gw_size]) _
          have ZyW2 := Lib.hid ((hbW2.block _ (Array.getElem?_eq_some_iff.1 Zc0.out).1).trans Zc0.out)
          have ZvW2 := Lib.hid ((hbW2.block _ (Array.getElem?_eq_some_iff.1 Zc1.out).1).trans Zc1.out)
          have ZcW2 := Lib.hid ((hbW2.block _ (Array.getElem?_eq_some_iff.1 Zc2.out).1).trans Zc2.out)
          have ZoW2 := Lib.hid ((hbW2.block _ (Array.getElem?_eq_some_iff.1 Zc3.out).1).trans Zc3.out)
          have zhW2 : W2.heap[W1.heap.size + z4.bs.size]? = some (.cells #[.int .i64 H.sl, .int .i64 H.sh, .int .i64 H.el, .int .i64 H.eh, .int .i64 H.pl, .int .i64 H.ph, .int .i64 H.gl, .int .i64 H.gh, .int .i64 H.ol, .int .i64 H.oh, .int .i64 H.tl, .int .i64 H.th, .int .i64 H.c] 38 (0, 0)) := by rw [← hW2]; exact alloc_at (by simp [gw_size])
          have ZhW2 := Lib.hid zhW2; clear zhW2
          have HBW2 := Lib.hid (thru hbW2 HBc.out)
          have SBW2 := Lib.hid hbW2; clear hbW2
          have HWW2 := Lib.hid hW2; clear hW2
          rw [HWW2.out]
          clear c00 c01 c02 c03 c04 c05 c06 c07 c10 c11 c12 c13 c14 c15 c16 c17 c18 c19 c110 c111 c112 c20 c21 c30 c31 c32 c33 c34 c35 c36 c37 c38 c39 c310 c311 c312 fc30 fc31 fc32 fc33 fc34 fc35 fc36 fc37 fc38 fc39 fc310 fc311 fc312
          have zsW2 := SBW2.out.size
          have eh0W2 : W2.cell? ⟨W1.heap.size + z4.bs.size, 0, none⟩ = some (.int .i64 H.sl) := cell_of_block ZhW2.out 0 (by simp)
          have eh1W2 : W2.cell? ⟨W1.heap.size + z4.bs.size, 1, none⟩ = some (.int .i64 H.sh) := cell_of_block ZhW2.out 1 (by simp)
          have eh2W2 : W2.cell? ⟨W1.heap.size + z4.bs.size, 2, none⟩ = some (.int .i64 H.el) := cell_of_block ZhW2.out 2 (by simp)
          have eh3W2 : W2.cell? ⟨W1.heap.size + z4.bs.size, 3, none⟩ = some (.int .i64 H.eh) := cell_of_block ZhW2.out 3 (by simp)
          have eh4W2 : W2.cell? ⟨W1.heap.size + z4.bs.size, 4, none⟩ = some (.int .i64 H.pl) := cell_of_block ZhW2.out 4 (by simp)
          have eh5W2 : W2.cell? ⟨W1.heap.size + z4.bs.size, 5, none⟩ = some (.int .i64 H.ph) := cell_of_block ZhW2.out 5 (by simp)
          have eh6W2 : W2.cell? ⟨W1.heap.size + z4.bs.size, 6, none⟩ = some (.int .i64 H.gl) := cell_of_block ZhW2.out 6 (by simp)
          have eh7W2 : W2.cell? ⟨W1.heap.size + z4.bs.size, 7, none⟩ = some (.int .i64 H.gh) := cell_of_block ZhW2.out 7 (by simp)
          have eh8W2 : W2.cell? ⟨W1.heap.size + z4.bs.size, 8, none⟩ = some (.int .i64 H.ol) := cell_of_block ZhW2.out 8 (by simp)
          have eh9W2 : W2.cell? ⟨W1.heap.size + z4.bs.size, 9, none⟩ = some (.int .i64 H.oh) := cell_of_block ZhW2.out 9 (by simp)
          have eh10W2 : W2.cell? ⟨W1.heap.size + z4.bs.size, 10, none⟩ = some (.int .i64 H.tl) := cell_of_block ZhW2.out 10 (by simp)
          have eh11W2 : W2.cell? ⟨W1.heap.size + z4.bs.size, 11, none⟩ = some (.int .i64 H.th) := cell_of_block ZhW2.out 11 (by simp)
          have eh12W2 : W2.cell? ⟨W1.heap.size + z4.bs.size, 12, none⟩ = some (.int .i64 H.c) := cell_of_block ZhW2.out 12 (by simp)
          have lhW2 := (Array.getElem?_eq_some_iff.1 ZhW2.out).1
          have eo0W2 : W2.cell? ⟨w.heap.size + 1 + 1 + 1, 0, none⟩ = some (.int .i64 0) := cell_of_block ZoW2.out 0 (by simp)
          have fo0W2 := frozen_of_block ZoW2.out 0
          have eo1W2 : W2.cell? ⟨w.heap.size + 1 + 1 + 1, 1, none⟩ = some (.int .i64 0) := cell_of_block ZoW2.out 1 (by simp)
          have fo1W2 := frozen_of_block ZoW2.out 1
          have eo2W2 : W2.cell? ⟨w.heap.size + 1 + 1 + 1, 2, none⟩ = some (.int .i64 0) := cell_of_block ZoW2.out 2 (by simp)
          have fo2W2 := frozen_of_block ZoW2.out 2
          have eo3W2 : W2.cell? ⟨w.heap.size + 1 + 1 + 1, 3, none⟩ = some (.int .i64 0) := cell_of_block ZoW2.out 3 (by simp)
          have fo3W2 := frozen_of_block ZoW2.out 3
          have eo4W2 : W2.cell? ⟨w.heap.size + 1 + 1 + 1, 4, none⟩ = some (.int .i64 0) := cell_of_block ZoW2.out 4 (by simp)
          have fo4W2 := frozen_of_block ZoW2.out 4
          have eo5W2 : W2.cell? ⟨w.heap.size + 1 + 1 + 1, 5, none⟩ = some (.int .i64 0) := cell_of_block ZoW2.out 5 (by simp)
          have fo5W2 := frozen_of_block ZoW2.out 5
          have eo6W2 : W2.cell? ⟨w.heap.size + 1 + 1 + 1, 6, none⟩ = some (.int .i64 0) := cell_of_block ZoW2.out 6 (by simp)
          have fo6W2 := frozen_of_block ZoW2.out 6
          have eo7W2 : W2.cell? ⟨w.heap.size + 1 + 1 + 1, 7, none⟩ = some (.int .i64 0) := cell_of_block ZoW2.out 7 (by simp)
          have fo7W2 := frozen_of_block ZoW2.out 7
          have eo8W2 : W2.cell? ⟨w.heap.size + 1 + 1 + 1, 8, none⟩ = some (.int .i64 0) := cell_of_block ZoW2.out 8 (by simp)
          have fo8W2 := frozen_of_block ZoW2.out 8
          have eo9W2 : W2.cell? ⟨w.heap.size + 1 + 1 + 1, 9, none⟩ = some (.int .i64 0) := cell_of_block ZoW2.out 9 (by simp)
          have fo9W2 := frozen_of_block ZoW2.out 9
          have eo10W2 : W2.cell? ⟨w.heap.size + 1 + 1 + 1, 10, none⟩ = some (.int .i64 0) := cell_of_block ZoW2.out 10 (by simp)
          have fo10W2 := frozen_of_block ZoW2.out 10
          have eo11W2 : W2.cell? ⟨w.heap.size + 1 + 1 + 1, 11, none⟩ = some (.int .i64 0) := cell_of_block ZoW2.out 11 (by simp)
          have fo11W2 := frozen_of_block ZoW2.out 11
          have eo12W2 : W2.cell? ⟨w.heap.size + 1 + 1 + 1, 12, none⟩ = some (.int .i64 0) := cell_of_block ZoW2.out 12 (by simp)
          have fo12W2 := frozen_of_block ZoW2.out 12
          have loW2 := (Array.getElem?_eq_some_iff.1 ZoW2.out).1
          go_wp2_with fail
          refine (Calls.grown (VB.out _ H _ H4.out)).mono ?_
          rintro e w1 ⟨rfl, z5, rfl⟩
          go_wp2_with fail
          refine bodyPost_ret (v := .tuple #[.agg #[.int .i64 0, .int .i64 0, .int .i64 0, .int .i64 0, .int .i64 0, .int .i64 0, .int .i64 0, .int .i64 0, .int .i64 0, .int .i64 0, .int .i64 0, .int .i64 0, .int .i64 0], .int .i64 12]) (by simp [results, Try.results35, go_sem, *]) rfl ⟨rfl, ?_⟩
          exact setAll_below (HBW2.out.gw z5) (HBW2.out.gw z5).size (by omega) [.int .i64 0, .int .i64 0, .int .i64 0, .int .i64 0, .int .i64 0, .int .i64 0, .int .i64 0, .int .i64 0, .int .i64 0, .int .i64 0, .int .i64 0, .int .i64 0, .int .i64 0] 0
        | true =>
          obtain ⟨he, hv⟩ := hour_fine ⟨h1, h2, h3⟩ h4
          rw [he, hv]
          clear he hv
          skip
          have H1 := Lib.hid h1; clear h1
          have H2 := Lib.hid h2; clear h2
          have H3 := Lib.hid h3; clear h3
          obtain ⟨H, hH⟩ : ∃ H, y.hour v cl ch = H := ⟨_, rfl⟩
          rw [hH] at h4 ⊢
          have HRR := fun W hb => HR.out W hb H1.out H2.out H3.out
          simp only [hH] at HRR
          unfold Vat.val at HRR
          have HR2 := Lib.hid HRR; have H4 := Lib.hid h4; clear HRR h4 hH
          unfold Vat.val
          go_enter Try.func35, Try.ntmps35
          go_upto_region 1 with (fail)
          rw [HWc.out]
          go_wp2_with fail
          refine (Calls.grown (YB.out _ _ (Below.refl _ _) H1.out)).mono ?_
          rintro e w1 ⟨rfl, z1, rfl⟩
          go_wp2_with fail
          refine (Calls.gw_of (VB.out _ v _ H2.out)).mono ?_
          rintro e w1 ⟨rfl, z2, rfl⟩
          go_wp2_with fail
          refine (Calls.gw_of (CB.out _ _ H3.out)).mono ?_
          rintro e w1 ⟨rfl, z3, rfl⟩
          go_wp2_with fail
          refine (Calls.gw_of (HR2.out _ (below_gw W1 z3))).mono ?_
          rintro e w1 ⟨rfl, z4, rfl⟩
          go_upto_region 4 with (fail)
          obtain ⟨W2, hW2⟩ : ∃ W2, ((gw W1 z4)).alloc (.cells #[.int .i64 H.sl, .int .i64 H.sh, .int .i64 H.el, .int .i64 H.eh, .int .i64 H.pl, .int .i64 H.ph, .int .i64 H.gl, .int .i64 H.gh, .int .i64 H.ol, .int .i64 H.oh, .int .i64 H.tl, .int .i64 H.th, .int .i64 H.c] 38) = W2 := ⟨_, rfl⟩
          have hbW2 : Below W1.heap.size W1 W2 := by rw [← hW2]; exact (below_gw W1 z4).alloc (by simp [gw_size]) _
          have ZyW2 := Lib.hid ((hbW2.block _ (Array.getElem?_eq_some_iff.1 Zc0.out).1).trans Zc0.out)
          have ZvW2 := Lib.hid ((hbW2.block _ (Array.getElem?_eq_some_iff.1 Zc1.out).1).trans Zc1.out)
          have ZcW2 := Lib.hid ((hbW2.block _ (Array.getElem?_eq_some_iff.1 Zc2.out).1).trans Zc2.out)
          have ZoW2 := Lib.hid ((hbW2.block _ (Array.getElem?_eq_some_iff.1 Zc3.out).1).trans Zc3.out)
          have zhW2 : W2.heap[W1.heap.size + z4.bs.size]? = some (.cells #[.int .i64 H.sl, .int .i64 H.sh, .int .i64 H.el, .int .i64 H.eh, .int .i64 H.pl, .int .i64 H.ph, .int .i64 H.gl, .int .i64 H.gh, .int .i64 H.ol, .int .i64 H.oh, .int .i64 H.tl, .int .i64 H.th, .int .i64 H.c] 38 (0, 0)) := by rw [← hW2]; exact alloc_at (by simp [gw_size])
          have ZhW2 := Lib.hid zhW2; clear zhW2
          have HBW2 := Lib.hid (thru hbW2 HBc.out)
          have SBW2 := Lib.hid hbW2; clear hbW2
          have HWW2 := Lib.hid hW2; clear hW2
          rw [HWW2.out]
          clear c00 c01 c02 c03 c04 c05 c06 c07 c10 c11 c12 c13 c14 c15 c16 c17 c18 c19 c110 c111 c112 c20 c21 c30 c31 c32 c33 c34 c35 c36 c37 c38 c39 c310 c311 c312 fc30 fc31 fc32 fc33 fc34 fc35 fc36 fc37 fc38 fc39 fc310 fc311 fc312
          have zsW2 := SBW2.out.size
          have eh0W2 : W2.cell? ⟨W1.heap.size + z4.bs.size, 0, none⟩ = some (.int .i64 H.sl) := cell_of_block ZhW2.out 0 (by simp)
          have eh1W2 : W2.cell? ⟨W1.heap.size + z4.bs.size, 1, none⟩ = some (.int .i64 H.sh) := cell_of_block ZhW2.out 1 (by simp)
          have eh2W2 : W2.cell? ⟨W1.heap.size + z4.bs.size, 2, none⟩ = some (.int .i64 H.el) := cell_of_block ZhW2.out 2 (by simp)
          have eh3W2 : W2.cell? ⟨W1.heap.size + z4.bs.size, 3, none⟩ = some (.int .i64 H.eh) := cell_of_block ZhW2.out 3 (by simp)
          have eh4W2 : W2.cell? ⟨W1.heap.size + z4.bs.size, 4, none⟩ = some (.int .i64 H.pl) := cell_of_block ZhW2.out 4 (by simp)
          have eh5W2 : W2.cell? ⟨W1.heap.size + z4.bs.size, 5, none⟩ = some (.int .i64 H.ph) := cell_of_block ZhW2.out 5 (by simp)
          have eh6W2 : W2.cell? ⟨W1.heap.size + z4.bs.size, 6, none⟩ = some (.int .i64 H.gl) := cell_of_block ZhW2.out 6 (by simp)
          have eh7W2 : W2.cell? ⟨W1.heap.size + z4.bs.size, 7, none⟩ = some (.int .i64 H.gh) := cell_of_block ZhW2.out 7 (by simp)
          have eh8W2 : W2.cell? ⟨W1.heap.size + z4.bs.size, 8, none⟩ = some (.int .i64 H.ol) := cell_of_block ZhW2.out 8 (by simp)
          have eh9W2 : W2.cell? ⟨W1.heap.size + z4.bs.size, 9, none⟩ = some (.int .i64 H.oh) := cell_of_block ZhW2.out 9 (by simp)
          have eh10W2 : W2.cell? ⟨W1.heap.size + z4.bs.size, 10, none⟩ = some (.int .i64 H.tl) := cell_of_block ZhW2.out 10 (by simp)
          have eh11W2 : W2.cell? ⟨W1.heap.size + z4.bs.size, 11, none⟩ = some (.int .i64 H.th) := cell_of_block ZhW2.out 11 (by simp)
          have eh12W2 : W2.cell? ⟨W1.heap.size + z4.bs.size, 12, none⟩ = some (.int .i64 H.c) := cell_of_block ZhW2.out 12 (by simp)
          have lhW2 := (Array.getElem?_eq_some_iff.1 ZhW2.out).1
          have eo0W2 : W2.cell? ⟨w.heap.size + 1 + 1 + 1, 0, none⟩ = some (.int .i64 0) := cell_of_block ZoW2.out 0 (by simp)
          have fo0W2 := frozen_of_block ZoW2.out 0
          have eo1W2 : W2.cell? ⟨w.heap.size + 1 + 1 + 1, 1, none⟩ = some (.int .i64 0) := cell_of_block ZoW2.out 1 (by simp)
          have fo1W2 := frozen_of_block ZoW2.out 1
          have eo2W2 : W2.cell? ⟨w.heap.size + 1 + 1 + 1, 2, none⟩ = some (.int .i64 0) := cell_of_block ZoW2.out 2 (by simp)
          have fo2W2 := frozen_of_block ZoW2.out 2
          have eo3W2 : W2.cell? ⟨w.heap.size + 1 + 1 + 1, 3, none⟩ = some (.int .i64 0) := cell_of_block ZoW2.out 3 (by simp)
          have fo3W2 := frozen_of_block ZoW2.out 3
          have eo4W2 : W2.cell? ⟨w.heap.size + 1 + 1 + 1, 4, none⟩ = some (.int .i64 0) := cell_of_block ZoW2.out 4 (by simp)
          have fo4W2 := frozen_of_block ZoW2.out 4
          have eo5W2 : W2.cell? ⟨w.heap.size + 1 + 1 + 1, 5, none⟩ = some (.int .i64 0) := cell_of_block ZoW2.out 5 (by simp)
          have fo5W2 := frozen_of_block ZoW2.out 5
          have eo6W2 : W2.cell? ⟨w.heap.size + 1 + 1 + 1, 6, none⟩ = some (.int .i64 0) := cell_of_block ZoW2.out 6 (by simp)
          have fo6W2 := frozen_of_block ZoW2.out 6
          have eo7W2 : W2.cell? ⟨w.heap.size + 1 + 1 + 1, 7, none⟩ = some (.int .i64 0) := cell_of_block ZoW2.out 7 (by simp)
          have fo7W2 := frozen_of_block ZoW2.out 7
          have eo8W2 : W2.cell? ⟨w.heap.size + 1 + 1 + 1, 8, none⟩ = some (.int .i64 0) := cell_of_block ZoW2.out 8 (by simp)
          have fo8W2 := frozen_of_block ZoW2.out 8
          have eo9W2 : W2.cell? ⟨w.heap.size + 1 + 1 + 1, 9, none⟩ = some (.int .i64 0) := cell_of_block ZoW2.out 9 (by simp)
          have fo9W2 := frozen_of_block ZoW2.out 9
          have eo10W2 : W2.cell? ⟨w.heap.size + 1 + 1 + 1, 10, none⟩ = some (.int .i64 0) := cell_of_block ZoW2.out 10 (by simp)
          have fo10W2 := frozen_of_block ZoW2.out 10
          have eo11W2 : W2.cell? ⟨w.heap.size + 1 + 1 + 1, 11, none⟩ = some (.int .i64 0) := cell_of_block ZoW2.out 11 (by simp)
          have fo11W2 := frozen_of_block ZoW2.out 11
          have eo12W2 : W2.cell? ⟨w.heap.size + 1 + 1 + 1, 12, none⟩ = some (.int .i64 0) := cell_of_block ZoW2.out 12 (by simp)
          have fo12W2 := frozen_of_block ZoW2.out 12
          have loW2 := (Array.getElem?_eq_some_iff.1 ZoW2.out).1
          go_wp2_with fail
          refine (Calls.grown (VB.out _ H _ H4.out)).mono ?_
          rintro e w1 ⟨rfl, z5, rfl⟩
          go_wp2_with fail
          refine bodyPost_ret (v := .tuple #[.agg #[.int .i64 H.sl, .int .i64 H.sh, .int .i64 H.el, .int .i64 H.eh, .int .i64 H.pl, .int .i64 H.ph, .int .i64 H.gl, .int .i64 H.gh, .int .i64 H.ol, .int .i64 H.oh, .int .i64 H.tl, .int .i64 H.th, .int .i64 H.c], .int .i64 0]) (by simp [results, Try.results35, go_sem, *]) rfl ⟨rfl, ?_⟩
          exact setAll_below (HBW2.out.gw z5) (HBW2.out.gw z5).size (by omega) [.int .i64 H.sl, .int .i64 H.sh, .int .i64 H.el, .int .i64 H.eh, .int .i64 H.pl, .int .i64 H.ph, .int .i64 H.gl, .int .i64 H.gh, .int .i64 H.ol, .int .i64 H.oh, .int .i64 H.tl, .int .i64 H.th, .int .i64 H.c] 0
end Go.Proofs.Ytecbacbecopbeaa
