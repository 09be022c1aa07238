/- Contracts of the reference's Measure, Shows. No conditions beyond each theorem's own. -/
import Derived.Test.YtljofnmgddfljaaCa
set_option linter.unusedVariables false
set_option linter.unusedSimpArgs false
set_option linter.unusedSectionVars false
set_option linter.constructorNameAsVariable false
namespace Go.Proofs.Ytljofnmgddfljaa
open Go.RowKit

attribute [local go_sem] gw_cell gw_frozen gw_size

theorem measE_one {C : Clim} {x : Cont} {k : Nat} {F G : Nat → Int} {m : Reg} (h : ¬ (climB C = true ∧ contB x = true ∧ staysB C.nA k F G = true ∧ regB m = true)) : measE C x k F G m = 1 := by
  unfold measE
  split
  · rename_i h2
    unfold errH
    rw [if_neg (fun h3 => h ⟨h3.1, h3.2.1, h3.2.2, h2⟩)]
  · rfl

set_option maxRecDepth 100000 in
set_option maxHeartbeats 4000000 in
theorem rMeasure_any (C : Clim) (x : Cont) (aS : Option Addr) (k cS : Nat) (F G : Nat → Int) (m : Reg) (w : World) (hC : C.In w) (hf : C.Fits) (hk : k ≤ 9223372036854775807) (hS : SpansAt w aS k F G) :
    Calls Try.prog 23 #[.agg #[.int .i64 C.days, .slice C.aA C.nA C.cA, .slice C.aW C.nW C.cW], x.val, .slice aS k cS, m.val] w fun e w' => e = .returned (.tuple #[(measV C x k F G m).val, .int .i64 (measF C x k F G m)]) ∧ Below w.heap.size w w' := by
  rw [show x.val = .agg #[.int .i64 x.day, .int .i64 x.alo, .int .i64 x.ahi, .int .i64 x.wlo, .int .i64 x.whi] from rfl, show m.val = .agg #[.int .i64 m.day, .int .i64 m.vlo, .int .i64 m.vhi, .int .i64 m.slo, .int .i64 m.shi] from rfl]
  obtain ⟨W1, hW1⟩ : ∃ W1, (((w.alloc (.cells #[.int .i64 C.days, .slice C.aA C.nA C.cA, .slice C.aW C.nW C.cW] 24)).alloc (.cells #[.int .i64 x.day, .int .i64 x.alo, .int .i64 x.ahi, .int .i64 x.wlo, .int .i64 x.whi] 28)).alloc (.cells #[.int .i64 m.day, .int .i64 m.vlo, .int .i64 m.vhi, .int .i64 m.slo, .int .i64 m.shi] 44)).alloc (.cells #[.int .i64 0, .int .i64 0, .int .i64 0, .int .i64 0, .int .i64 0] 28) = W1 := ⟨_, rfl⟩
  have hBc : Below w.heap.size w W1 := by rw [← hW1]; exact (((below_alloc _ _).alloc (by simp) _).alloc (by simp <;> omega) _).alloc (by simp <;> omega) _
  have zc0 : W1.heap[w.heap.size]? = some (.cells #[.int .i64 C.days, .slice C.aA C.nA C.cA, .slice C.aW C.nW C.cW] 24 (0, 0)) := by rw [← hW1]; exact alloc_keep (alloc_keep (alloc_keep (alloc_at rfl)))
  have zc1 : W1.heap[w.heap.size + 1]? = some (.cells #[.int .i64 x.day, .int .i64 x.alo, .int .i64 x.ahi, .int .i64 x.wlo, .int .i64 x.whi] 28 (0, 0)) := by rw [← hW1]; exact alloc_keep (alloc_keep (alloc_at (by simp)))
  have zc2 : W1.heap[w.heap.size + 1 + 1]? = some (.cells #[.int .i64 m.day, .int .i64 m.vlo, .int .i64 m.vhi, .int .i64 m.slo, .int .i64 m.shi] 44 (0, 0)) := by rw [← hW1]; exact alloc_keep (alloc_at (by simp <;> omega))
  have zc3 : W1.heap[w.heap.size + 1 + 1 + 1]? = some (.cells #[.int .i64 0, .int .i64 0, .int .i64 0, .int .i64 0, .int .i64 0] 28 (0, 0)) := by rw [← hW1]; exact alloc_at (by simp <;> omega)
  have c00 : W1.cell? ⟨w.heap.size, 0, none⟩ = some (.int .i64 C.days) := cell_of_block zc0 0 (by simp)
  have c01 : W1.cell? ⟨w.heap.size, 1, none⟩ = some (.slice C.aA C.nA C.cA) := cell_of_block zc0 1 (by simp)
  have c02 : W1.cell? ⟨w.heap.size, 2, none⟩ = some (.slice C.aW C.nW C.cW) := cell_of_block zc0 2 (by simp)
  have c10 : W1.cell? ⟨w.heap.size + 1, 0, none⟩ = some (.int .i64 x.day) := cell_of_block zc1 0 (by simp)
  have c11 : W1.cell? ⟨w.heap.size + 1, 1, none⟩ = some (.int .i64 x.alo) := cell_of_block zc1 1 (by simp)
  have c12 : W1.cell? ⟨w.heap.size + 1, 2, none⟩ = some (.int .i64 x.ahi) := cell_of_block zc1 2 (by simp)
  have c13 : W1.cell? ⟨w.heap.size + 1, 3, none⟩ = some (.int .i64 x.wlo) := cell_of_block zc1 3 (by simp)
  have c14 : W1.cell? ⟨w.heap.size + 1, 4, none⟩ = some (.int .i64 x.whi) := cell_of_block zc1 4 (by simp)
  have c20 : W1.cell? ⟨w.heap.size + 1 + 1, 0, none⟩ = some (.int .i64 m.day) := cell_of_block zc2 0 (by simp)
  have c21 : W1.cell? ⟨w.heap.size + 1 + 1, 1, none⟩ = some (.int .i64 m.vlo) := cell_of_block zc2 1 (by simp)
  have c22 : W1.cell? ⟨w.heap.size + 1 + 1, 2, none⟩ = some (.int .i64 m.vhi) := cell_of_block zc2 2 (by simp)
  have c23 : W1.cell? ⟨w.heap.size + 1 + 1, 3, none⟩ = some (.int .i64 m.slo) := cell_of_block zc2 3 (by simp)
  have c24 : W1.cell? ⟨w.heap.size + 1 + 1, 4, none⟩ = some (.int .i64 m.shi) := cell_of_block zc2 4 (by simp)
  have c30 : W1.cell? ⟨w.heap.size + 1 + 1 + 1, 0, none⟩ = some (.int .i64 0) := cell_of_block zc3 0 (by simp)
  have c31 : W1.cell? ⟨w.heap.size + 1 + 1 + 1, 1, none⟩ = some (.int .i64 0) := cell_of_block zc3 1 (by simp)
  have c32 : W1.cell? ⟨w.heap.size + 1 + 1 + 1, 2, none⟩ = some (.int .i64 0) := cell_of_block zc3 2 (by simp)
  have c33 : W1.cell? ⟨w.heap.size + 1 + 1 + 1, 3, none⟩ = some (.int .i64 0) := cell_of_block zc3 3 (by simp)
  have c34 : W1.cell? ⟨w.heap.size + 1 + 1 + 1, 4, none⟩ = some (.int .i64 0) := cell_of_block zc3 4 (by simp)
  have lc0 := (Array.getElem?_eq_some_iff.1 zc0).1
  have lc1 := (Array.getElem?_eq_some_iff.1 zc1).1
  have lc2 := (Array.getElem?_eq_some_iff.1 zc2).1
  have lc3 := (Array.getElem?_eq_some_iff.1 zc3).1
  have fc30 := frozen_of_block zc3 0
  have fc31 := frozen_of_block zc3 1
  have fc32 := frozen_of_block zc3 2
  have fc33 := frozen_of_block zc3 3
  have fc34 := frozen_of_block zc3 4
  have Zc0 := Lib.hid zc0
  have Zc1 := Lib.hid zc1
  have Zc2 := Lib.hid zc2
  have Zc3 := Lib.hid zc3
  clear zc0 zc1 zc2 zc3
  have HBc := Lib.hid hBc; clear hBc
  have HWc := Lib.hid hW1; clear hW1
  have HC := Lib.hid (hC.below HBc.out); clear hC
  have HS := Lib.hid (hS.below HBc.out); clear hS
  cases h1 : climB C with
  | false =>
    have ME := measE_one (C := C) (x := x) (k := k) (F := F) (G := G) (m := m) (by simp [h1])
    rw [show measF C x k F G m = 1 by unfold measF; rw [ME]; simp, show measV C x k F G m = zeroCont by unfold measV; rw [ME]; simp, zero_val]
    clear ME
    have H1 := Lib.hid h1; clear h1
    go_enter Try.func23, Try.ntmps23
    go_wp2_with fail
    rw [HWc.out]
    go_wp2_with fail
    refine (Calls.grown (rClimate_b C _ (HC.out.below (Below.refl _ W1)) hf H1.out)).mono ?_
    rintro e w1 ⟨rfl, z1, rfl⟩
    go_wp2_with fail
    refine bodyPost_ret (v := .tuple #[.agg #[.int .i64 0, .int .i64 0, .int .i64 0, .int .i64 0, .int .i64 0], .int .i64 1]) (by simp [results, Try.results23, go_sem, *]) rfl ⟨rfl, ?_⟩
    exact (((((HBc.out.gw z1).setCell (by simp <;> omega) _).setCell (by simp <;> omega) _).setCell (by simp <;> omega) _).setCell (by simp <;> omega) _).setCell (by simp <;> omega) _
  | true =>
    cases h2 : contB x with
    | false =>
      have ME := measE_one (C := C) (x := x) (k := k) (F := F) (G := G) (m := m) (by simp [h1, h2])
      rw [show measF C x k F G m = 1 by unfold measF; rw [ME]; simp, show measV C x k F G m = zeroCont by unfold measV; rw [ME]; simp, zero_val]
      clear ME
      have H1 := Lib.hid h1; clear h1
      have H2 := Lib.hid h2; clear h2
      go_enter Try.func23, Try.ntmps23
      go_wp2_with fail
      rw [HWc.out]
      go_wp2_with fail
      refine (Calls.grown (rClimate_b C _ (HC.out.below (Below.refl _ W1)) hf H1.out)).mono ?_
      rintro e w1 ⟨rfl, z1, rfl⟩
      go_wp2_with fail
      refine (Calls.gw_of (rContent_b x _ H2.out)).mono ?_
      rintro e w1 ⟨rfl, z2, rfl⟩
      go_wp2_with fail
      refine bodyPost_ret (v := .tuple #[.agg #[.int .i64 0, .int .i64 0, .int .i64 0, .int .i64 0, .int .i64 0], .int .i64 1]) (by simp [results, Try.results23, go_sem, *]) rfl ⟨rfl, ?_⟩
      exact (((((HBc.out.gw z2).setCell (by simp <;> omega) _).setCell (by simp <;> omega) _).setCell (by simp <;> omega) _).setCell (by simp <;> omega) _).setCell (by simp <;> omega) _
    | true =>
      cases h3 : staysB C.nA k F G with
      | false =>
        have ME := measE_one (C := C) (x := x) (k := k) (F := F) (G := G) (m := m) (by simp [h1, h2, h3])
        rw [show measF C x k F G m = 1 by unfold measF; rw [ME]; simp, show measV C x k F G m = zeroCont by unfold measV; rw [ME]; simp, zero_val]
        clear ME
        have H1 := Lib.hid h1; clear h1
        have H2 := Lib.hid h2; clear h2
        have H3 := Lib.hid h3; clear h3
        go_enter Try.func23, Try.ntmps23
        go_wp2_with fail
        rw [HWc.out]
        go_wp2_with fail
        refine (Calls.grown (rClimate_b C _ (HC.out.below (Below.refl _ W1)) hf H1.out)).mono ?_
        rintro e w1 ⟨rfl, z1, rfl⟩
        go_wp2_with fail
        refine (Calls.gw_of (rContent_b x _ H2.out)).mono ?_
        rintro e w1 ⟨rfl, z2, rfl⟩
        go_wp2_with fail
        refine (Calls.gw_of (rStays_b C _ k cS F G _ hf hk (HS.out.below (below_gw W1 z2)) H3.out)).mono ?_
        rintro e w1 ⟨rfl, z3, rfl⟩
        go_wp2_with fail
        refine bodyPost_ret (v := .tuple #[.agg #[.int .i64 0, .int .i64 0, .int .i64 0, .int .i64 0, .int .i64 0], .int .i64 1]) (by simp [results, Try.results23, go_sem, *]) rfl ⟨rfl, ?_⟩
        exact (((((HBc.out.gw z3).setCell (by simp <;> omega) _).setCell (by simp <;> omega) _).setCell (by simp <;> omega) _).setCell (by simp <;> omega) _).setCell (by simp <;> omega) _
      | true =>
        cases h4 : regB m with
        | false =>
          have ME := measE_one (C := C) (x := x) (k := k) (F := F) (G := G) (m := m) (by simp [h1, h2, h3, h4])
          rw [show measF C x k F G m = 1 by unfold measF; rw [ME]; simp, show measV C x k F G m = zeroCont by unfold measV; rw [ME]; simp, zero_val]
          clear ME
          have H1 := Lib.hid h1; clear h1
          have H2 := Lib.hid h2; clear h2
          have H3 := Lib.hid h3; clear h3
          have H4 := Lib.hid h4; clear h4
          go_enter Try.func23, Try.ntmps23
          go_wp2_with fail
          rw [HWc.out]
          go_wp2_with fail
          refine (Calls.grown (rClimate_b C _ (HC.out.below (Below.refl _ W1)) hf H1.out)).mono ?_
          rintro e w1 ⟨rfl, z1, rfl⟩
          go_wp2_with fail
          refine (Calls.gw_of (rContent_b x _ H2.out)).mono ?_
          rintro e w1 ⟨rfl, z2, rfl⟩
          go_wp2_with fail
          refine (Calls.gw_of (rStays_b C _ k cS F G _ hf hk (HS.out.below (below_gw W1 z2)) H3.out)).mono ?_
          rintro e w1 ⟨rfl, z3, rfl⟩
          go_wp2_with fail
          refine (Calls.gw_of (rValid_b m _ H4.out)).mono ?_
          rintro e w1 ⟨rfl, z4, rfl⟩
          go_wp2_with fail
          refine bodyPost_ret (v := .tuple #[.agg #[.int .i64 0, .int .i64 0, .int .i64 0, .int .i64 0, .int .i64 0], .int .i64 1]) (by simp [results, Try.results23, go_sem, *]) rfl ⟨rfl, ?_⟩
          exact (((((HBc.out.gw z4).setCell (by simp <;> omega) _).setCell (by simp <;> omega) _).setCell (by simp <;> omega) _).setCell (by simp <;> omega) _).setCell (by simp <;> omega) _
        | true =>
          have AT := fun z => rAt_any C x aS k cS F G m.day (gw W1 z) (HC.out.below (below_gw W1 z)) hf hk (HS.out.below (below_gw W1 z))
          rw [show x.val = .agg #[.int .i64 x.day, .int .i64 x.alo, .int .i64 x.ahi, .int .i64 x.wlo, .int .i64 x.whi] from rfl] at AT
          have ME : measE C x k F G m = errH C x k F G m.day := if_pos h4
          have MA : measA C x k F G m = atV C x k F G m.day := if_pos h4
          by_cases h : errH C x k F G m.day = 0
          · have MS := fun W => rMeasured_any m W h4
            have SH := fun W => rshows_any (atV C x k F G m.day) m W (atV_cont h).1 h4
            have yd := (atV_cont h).2
            rw [show measF C x k F G m = _ from if_pos (ME.trans h), show measV C x k F G m = _ from if_pos (ME.trans h), MA]
            rw [h] at AT
            clear ME MA h
            generalize atV C x k F G m.day = y at *
            have SN : meetB y (measC m) = true ↔ showsN y (measC m) = 0 := by
              unfold showsN
              constructor
              · intro h; rw [if_pos h]
              · intro h; split at h
                · assumption
                · split at h
                  · omega
                  · split at h <;> omega
            generalize showsN y (measC m) = n at *
            generalize measC m = u at *
            rw [show m.val = .agg #[.int .i64 m.day, .int .i64 m.vlo, .int .i64 m.vhi, .int .i64 m.slo, .int .i64 m.shi] from rfl] at SH MS
            rw [show y.val = .agg #[.int .i64 y.day, .int .i64 y.alo, .int .i64 y.ahi, .int .i64 y.wlo, .int .i64 y.whi] from rfl] at AT SH
            have YD := Lib.hid yd; clear yd
            have AT' := Lib.hid AT; clear AT
            have MS' := Lib.hid MS; clear MS
            have SH' := Lib.hid SH; clear SH
            by_cases hb : meetB y u = true
            · rw [if_pos hb, if_pos hb, show (meetC y u).val = .agg #[.int .i64 (meetC y u).day, .int .i64 (meetC y u).alo, .int .i64 (meetC y u).ahi, .int .i64 (meetC y u).wlo, .int .i64 (meetC y u).whi] from rfl]
              obtain rfl := SN.1 hb
              clear SN hb
              have H1 := Lib.hid h1; clear h1
              have H2 := Lib.hid h2; clear h2
              have H3 := Lib.hid h3; clear h3
              have H4 := Lib.hid h4; clear h4
              go_enter Try.func23, Try.ntmps23
              go_wp2_with fail
              rw [HWc.out]
              go_wp2_with fail
              refine (Calls.grown (rClimate_b C _ (HC.out.below (Below.refl _ W1)) hf H1.out)).mono ?_
              rintro e w1 ⟨rfl, z1, rfl⟩
              go_wp2_with fail
              refine (Calls.gw_of (rContent_b x _ H2.out)).mono ?_
              rintro e w1 ⟨rfl, z2, rfl⟩
              go_wp2_with fail
              refine (Calls.gw_of (rStays_b C _ k cS F G _ hf hk (HS.out.below (below_gw W1 z2)) H3.out)).mono ?_
              rintro e w1 ⟨rfl, z3, rfl⟩
              go_wp2_with fail
              refine (Calls.gw_of (rValid_b m _ H4.out)).mono ?_
              rintro e w1 ⟨rfl, z4, rfl⟩
              go_wp2_with fail
              refine (Calls.gw_of (AT'.out _)).mono ?_
              rintro e w1 ⟨rfl, z5, rfl⟩
              go_upto_region 4 with (fail)
              obtain ⟨W2, hW2⟩ : ∃ W2, ((gw W1 z5)).alloc (.cells #[.int .i64 y.day, .int .i64 y.alo, .int .i64 y.ahi, .int .i64 y.wlo, .int .i64 y.whi] 28) = W2 := ⟨_, rfl⟩
              have hbW2 : Below W1.heap.size W1 W2 := by rw [← hW2]; exact (below_gw W1 z5).alloc (by simp [gw_size]) _
              have ZrW2 := Lib.hid ((hbW2.block _ (Array.getElem?_eq_some_iff.1 Zc2.out).1).trans Zc2.out)
              have ZoW2 := Lib.hid ((hbW2.block _ (Array.getElem?_eq_some_iff.1 Zc3.out).1).trans Zc3.out)
              have zyW2 : W2.heap[W1.heap.size + z5.bs.size]? = some (.cells #[.int .i64 y.day, .int .i64 y.alo, .int .i64 y.ahi, .int .i64 y.wlo, .int .i64 y.whi] 28 (0, 0)) := by rw [← hW2]; exact alloc_at (by simp [gw_size])
              have ZyW2 := Lib.hid zyW2; clear zyW2
              have HBW2 := Lib.hid (thru hbW2 HBc.out)
              have SBW2 := Lib.hid hbW2; clear hbW2
              have HWW2 := Lib.hid hW2; clear hW2
              rw [HWW2.out]
              clear c00 c01 c02 c10 c11 c12 c13 c14 c20 c21 c22 c23 c24 c30 c31 c32 c33 c34 fc30 fc31 fc32 fc33 fc34
              have er0W2 : W2.cell? ⟨w.heap.size + 1 + 1, 0, none⟩ = some (.int .i64 m.day) := cell_of_block ZrW2.out 0 (by simp)
              have er1W2 : W2.cell? ⟨w.heap.size + 1 + 1, 1, none⟩ = some (.int .i64 m.vlo) := cell_of_block ZrW2.out 1 (by simp)
              have er2W2 : W2.cell? ⟨w.heap.size + 1 + 1, 2, none⟩ = some (.int .i64 m.vhi) := cell_of_block ZrW2.out 2 (by simp)
              have er3W2 : W2.cell? ⟨w.heap.size + 1 + 1, 3, none⟩ = some (.int .i64 m.slo) := cell_of_block ZrW2.out 3 (by simp)
              have er4W2 : W2.cell? ⟨w.heap.size + 1 + 1, 4, none⟩ = some (.int .i64 m.shi) := cell_of_block ZrW2.out 4 (by simp)
              have lrW2 := (Array.getElem?_eq_some_iff.1 ZrW2.out).1
              have eo0W2 : W2.cell? ⟨w.heap.size + 1 + 1 + 1, 0, none⟩ = some (.int .i64 0) := cell_of_block ZoW2.out 0 (by simp)
              have fo0W2 := frozen_of_block ZoW2.out 0
              have eo1W2 : W2.cell? ⟨w.heap.size + 1 + 1 + 1, 1, none⟩ = some (.int .i64 0) := cell_of_block ZoW2.out 1 (by simp)
              have fo1W2 := frozen_of_block ZoW2.out 1
              have eo2W2 : W2.cell? ⟨w.heap.size + 1 + 1 + 1, 2, none⟩ = some (.int .i64 0) := cell_of_block ZoW2.out 2 (by simp)
              have fo2W2 := frozen_of_block ZoW2.out 2
              have eo3W2 : W2.cell? ⟨w.heap.size + 1 + 1 + 1, 3, none⟩ = some (.int .i64 0) := cell_of_block ZoW2.out 3 (by simp)
              have fo3W2 := frozen_of_block ZoW2.out 3
              have eo4W2 : W2.cell? ⟨w.heap.size + 1 + 1 + 1, 4, none⟩ = some (.int .i64 0) := cell_of_block ZoW2.out 4 (by simp)
              have fo4W2 := frozen_of_block ZoW2.out 4
              have loW2 := (Array.getElem?_eq_some_iff.1 ZoW2.out).1
              have ey0W2 : W2.cell? ⟨W1.heap.size + z5.bs.size, 0, none⟩ = some (.int .i64 y.day) := cell_of_block ZyW2.out 0 (by simp)
              have ey1W2 : W2.cell? ⟨W1.heap.size + z5.bs.size, 1, none⟩ = some (.int .i64 y.alo) := cell_of_block ZyW2.out 1 (by simp)
              have ey2W2 : W2.cell? ⟨W1.heap.size + z5.bs.size, 2, none⟩ = some (.int .i64 y.ahi) := cell_of_block ZyW2.out 2 (by simp)
              have ey3W2 : W2.cell? ⟨W1.heap.size + z5.bs.size, 3, none⟩ = some (.int .i64 y.wlo) := cell_of_block ZyW2.out 3 (by simp)
              have ey4W2 : W2.cell? ⟨W1.heap.size + z5.bs.size, 4, none⟩ = some (.int .i64 y.whi) := cell_of_block ZyW2.out 4 (by simp)
              have lyW2 := (Array.getElem?_eq_some_iff.1 ZyW2.out).1
              go_wp2_with fail
              refine (Calls.grown (SH'.out _)).mono ?_
              rintro e w1 ⟨rfl, z6, rfl⟩
              go_wp2_with fail
              refine (Calls.gw_of (MS'.out _)).mono ?_
              rintro e w1 ⟨rfl, z7, rfl⟩
              go_upto_region 9 with (fail)
              obtain ⟨W3, hW3⟩ : ∃ W3, (((gw W2 z7)).alloc (.cells #[.int .i64 u.alo, .int .i64 u.ahi] 26)).alloc (.cells #[.int .i64 u.wlo, .int .i64 u.whi] 26) = W3 := ⟨_, rfl⟩
              have hbW3 : Below W2.heap.size W2 W3 := by rw [← hW3]; exact ((below_gw W2 z7).alloc (by simp [gw_size]) _).alloc (by simp [gw_size] <;> omega) _
              have ZrW3 := Lib.hid ((hbW3.block _ (Array.getElem?_eq_some_iff.1 ZrW2.out).1).trans ZrW2.out)
              have ZoW3 := Lib.hid ((hbW3.block _ (Array.getElem?_eq_some_iff.1 ZoW2.out).1).trans ZoW2.out)
              have ZyW3 := Lib.hid ((hbW3.block _ (Array.getElem?_eq_some_iff.1 ZyW2.out).1).trans ZyW2.out)
              have zaW3 : W3.heap[W2.heap.size + z7.bs.size]? = some (.cells #[.int .i64 u.alo, .int .i64 u.ahi] 26 (0, 0)) := by rw [← hW3]; exact alloc_keep (alloc_at (by simp [gw_size]))
              have ZaW3 := Lib.hid zaW3; clear zaW3
              have zbW3 : W3.heap[W2.heap.size + z7.bs.size + 1]? = some (.cells #[.int .i64 u.wlo, .int .i64 u.whi] 26 (0, 0)) := by rw [← hW3]; exact alloc_at (by simp [gw_size] <;> omega)
              have ZbW3 := Lib.hid zbW3; clear zbW3
              have HBW3 := Lib.hid (thru hbW3 HBW2.out)
              have SBW3 := Lib.hid hbW3; clear hbW3
              have HWW3 := Lib.hid hW3; clear hW3
              rw [HWW3.out]
              clear er0W2 er1W2 er2W2 er3W2 er4W2 eo0W2 eo1W2 eo2W2 eo3W2 eo4W2 ey0W2 ey1W2 ey2W2 ey3W2 ey4W2 fo0W2 fo1W2 fo2W2 fo3W2 fo4W2
              have er0W3 : W3.cell? ⟨w.heap.size + 1 + 1, 0, none⟩ = some (.int .i64 m.day) := cell_of_block ZrW3.out 0 (by simp)
              have er1W3 : W3.cell? ⟨w.heap.size + 1 + 1, 1, none⟩ = some (.int .i64 m.vlo) := cell_of_block ZrW3.out 1 (by simp)
              have er2W3 : W3.cell? ⟨w.heap.size + 1 + 1, 2, none⟩ = some (.int .i64 m.vhi) := cell_of_block ZrW3.out 2 (by simp)
              have er3W3 : W3.cell? ⟨w.heap.size + 1 + 1, 3, none⟩ = some (.int .i64 m.slo) := cell_of_block ZrW3.out 3 (by simp)
              have er4W3 : W3.cell? ⟨w.heap.size + 1 + 1, 4, none⟩ = some (.int .i64 m.shi) := cell_of_block ZrW3.out 4 (by simp)
              have lrW3 := (Array.getElem?_eq_some_iff.1 ZrW3.out).1
              have ey0W3 : W3.cell? ⟨W1.heap.size + z5.bs.size, 0, none⟩ = some (.int .i64 y.day) := cell_of_block ZyW3.out 0 (by simp)
              have ey1W3 : W3.cell? ⟨W1.heap.size + z5.bs.size, 1, none⟩ = some (.int .i64 y.alo) := cell_of_block ZyW3.out 1 (by simp)
              have ey2W3 : W3.cell? ⟨W1.heap.size + z5.bs.size, 2, none⟩ = some (.int .i64 y.ahi) := cell_of_block ZyW3.out 2 (by simp)
              have ey3W3 : W3.cell? ⟨W1.heap.size + z5.bs.size, 3, none⟩ = some (.int .i64 y.wlo) := cell_of_block ZyW3.out 3 (by simp)
              have ey4W3 : W3.cell? ⟨W1.heap.size + z5.bs.size, 4, none⟩ = some (.int .i64 y.whi) := cell_of_block ZyW3.out 4 (by simp)
              have lyW3 := (Array.getElem?_eq_some_iff.1 ZyW3.out).1
              have ea0W3 : W3.cell? ⟨W2.heap.size + z7.bs.size, 0, none⟩ = some (.int .i64 u.alo) := cell_of_block ZaW3.out 0 (by simp)
              have ea1W3 : W3.cell? ⟨W2.heap.size + z7.bs.size, 1, none⟩ = some (.int .i64 u.ahi) := cell_of_block ZaW3.out 1 (by simp)
              have laW3 := (Array.getElem?_eq_some_iff.1 ZaW3.out).1
              have eb0W3 : W3.cell? ⟨W2.heap.size + z7.bs.size + 1, 0, none⟩ = some (.int .i64 u.wlo) := cell_of_block ZbW3.out 0 (by simp)
              have eb1W3 : W3.cell? ⟨W2.heap.size + z7.bs.size + 1, 1, none⟩ = some (.int .i64 u.whi) := cell_of_block ZbW3.out 1 (by simp)
              have lbW3 := (Array.getElem?_eq_some_iff.1 ZbW3.out).1
              refine wp_region_gw_tail 10 (by kernel_rfl) (by kernel_rfl) ?_
              simp only [List.take_succ_cons, List.take_zero]
              repeat (go_big_quiet_step ((go_at_call 57; exact Calls.gw_of (rboth_any _ _ _ _ _))))
              refine wpQuiet_nil ?_
              rintro _ ⟨z9, rfl⟩
              simp only [List.drop_succ_cons, List.drop_zero]
              clear er0W3 er1W3 er2W3 er3W3 er4W3 ey0W3 ey1W3 ey2W3 ey3W3 ey4W3 ea0W3 ea1W3 eb0W3 eb1W3
              obtain ⟨W4, hW4⟩ : ∃ W4, gw W3 z9 = W4 := ⟨_, rfl⟩
              have hbW4 : Below W3.heap.size W3 W4 := by rw [← hW4]; exact below_gw W3 z9
              have ZrW4 := Lib.hid ((hbW4.block _ (Array.getElem?_eq_some_iff.1 ZrW3.out).1).trans ZrW3.out)
              have ZoW4 := Lib.hid ((hbW4.block _ (Array.getElem?_eq_some_iff.1 ZoW3.out).1).trans ZoW3.out)
              have ZyW4 := Lib.hid ((hbW4.block _ (Array.getElem?_eq_some_iff.1 ZyW3.out).1).trans ZyW3.out)
              have ZaW4 := Lib.hid ((hbW4.block _ (Array.getElem?_eq_some_iff.1 ZaW3.out).1).trans ZaW3.out)
              have ZbW4 := Lib.hid ((hbW4.block _ (Array.getElem?_eq_some_iff.1 ZbW3.out).1).trans ZbW3.out)
              have HBW4 := Lib.hid (thru hbW4 HBW3.out)
              have SBW4 := Lib.hid hbW4; clear hbW4
              have HWW4 := Lib.hid hW4; clear hW4
              rw [HWW4.out]
              have eo0W4 : W4.cell? ⟨w.heap.size + 1 + 1 + 1, 0, none⟩ = some (.int .i64 0) := cell_of_block ZoW4.out 0 (by simp)
              have fo0W4 := frozen_of_block ZoW4.out 0
              have eo1W4 : W4.cell? ⟨w.heap.size + 1 + 1 + 1, 1, none⟩ = some (.int .i64 0) := cell_of_block ZoW4.out 1 (by simp)
              have fo1W4 := frozen_of_block ZoW4.out 1
              have eo2W4 : W4.cell? ⟨w.heap.size + 1 + 1 + 1, 2, none⟩ = some (.int .i64 0) := cell_of_block ZoW4.out 2 (by simp)
              have fo2W4 := frozen_of_block ZoW4.out 2
              have eo3W4 : W4.cell? ⟨w.heap.size + 1 + 1 + 1, 3, none⟩ = some (.int .i64 0) := cell_of_block ZoW4.out 3 (by simp)
              have fo3W4 := frozen_of_block ZoW4.out 3
              have eo4W4 : W4.cell? ⟨w.heap.size + 1 + 1 + 1, 4, none⟩ = some (.int .i64 0) := cell_of_block ZoW4.out 4 (by simp)
              have fo4W4 := frozen_of_block ZoW4.out 4
              have loW4 := (Array.getElem?_eq_some_iff.1 ZoW4.out).1
              go_wp2_with fail
              refine bodyPost_ret (v := .tuple #[.agg #[.int .i64 m.day, .int .i64 (maxZ y.alo u.alo), .int .i64 (minZ y.ahi u.ahi), .int .i64 (maxZ y.wlo u.wlo), .int .i64 (minZ y.whi u.whi)], .int .i64 0]) (by simp [results, Try.results23, go_sem, *]) rfl ⟨by rw [← YD.out]; rfl, ?_⟩
              exact (((((HBW4.out).setCell (by simp <;> omega) _).setCell (by simp <;> omega) _).setCell (by simp <;> omega) _).setCell (by simp <;> omega) _).setCell (by simp <;> omega) _
            · have nz : (n != 0) = true := by simpa using fun h => hb (SN.2 h)
              rw [if_neg hb, if_neg hb, zero_val]
              clear SN hb
              have H1 := Lib.hid h1; clear h1
              have H2 := Lib.hid h2; clear h2
              have H3 := Lib.hid h3; clear h3
              have H4 := Lib.hid h4; clear h4
              go_enter Try.func23, Try.ntmps23
              go_wp2_with fail
              rw [HWc.out]
              go_wp2_with fail
              refine (Calls.grown (rClimate_b C _ (HC.out.below (Below.refl _ W1)) hf H1.out)).mono ?_
              rintro e w1 ⟨rfl, z1, rfl⟩
              go_wp2_with fail
              refine (Calls.gw_of (rContent_b x _ H2.out)).mono ?_
              rintro e w1 ⟨rfl, z2, rfl⟩
              go_wp2_with fail
              refine (Calls.gw_of (rStays_b C _ k cS F G _ hf hk (HS.out.below (below_gw W1 z2)) H3.out)).mono ?_
              rintro e w1 ⟨rfl, z3, rfl⟩
              go_wp2_with fail
              refine (Calls.gw_of (rValid_b m _ H4.out)).mono ?_
              rintro e w1 ⟨rfl, z4, rfl⟩
              go_wp2_with fail
              refine (Calls.gw_of (AT'.out _)).mono ?_
              rintro e w1 ⟨rfl, z5, rfl⟩
              go_upto_region 4 with (fail)
              obtain ⟨W2, hW2⟩ : ∃ W2, ((gw W1 z5)).alloc (.cells #[.int .i64 y.day, .int .i64 y.alo, .int .i64 y.ahi, .int .i64 y.wlo, .int .i64 y.whi] 28) = W2 := ⟨_, rfl⟩
              have hbW2 : Below W1.heap.size W1 W2 := by rw [← hW2]; exact (below_gw W1 z5).alloc (by simp [gw_size]) _
              have ZrW2 := Lib.hid ((hbW2.block _ (Array.getElem?_eq_some_iff.1 Zc2.out).1).trans Zc2.out)
              have ZoW2 := Lib.hid ((hbW2.block _ (Array.getElem?_eq_some_iff.1 Zc3.out).1).trans Zc3.out)
              have zyW2 : W2.heap[W1.heap.size + z5.bs.size]? = some (.cells #[.int .i64 y.day, .int .i64 y.alo, .int .i64 y.ahi, .int .i64 y.wlo, .int .i64 y.whi] 28 (0, 0)) := by rw [← hW2]; exact alloc_at (by simp [gw_size])
              have ZyW2 := Lib.hid zyW2; clear zyW2
              have HBW2 := Lib.hid (thru hbW2 HBc.out)
              have SBW2 := Lib.hid hbW2; clear hbW2
              have HWW2 := Lib.hid hW2; clear hW2
              rw [HWW2.out]
              clear c00 c01 c02 c10 c11 c12 c13 c14 c20 c21 c22 c23 c24 c30 c31 c32 c33 c34 fc30 fc31 fc32 fc33 fc34
              have er0W2 : W2.cell? ⟨w.heap.size + 1 + 1, 0, none⟩ = some (.int .i64 m.day) := cell_of_block ZrW2.out 0 (by simp)
              have er1W2 : W2.cell? ⟨w.heap.size + 1 + 1, 1, none⟩ = some (.int .i64 m.vlo) := cell_of_block ZrW2.out 1 (by simp)
              have er2W2 : W2.cell? ⟨w.heap.size + 1 + 1, 2, none⟩ = some (.int .i64 m.vhi) := cell_of_block ZrW2.out 2 (by simp)
              have er3W2 : W2.cell? ⟨w.heap.size + 1 + 1, 3, none⟩ = some (.int .i64 m.slo) := cell_of_block ZrW2.out 3 (by simp)
              have er4W2 : W2.cell? ⟨w.heap.size + 1 + 1, 4, none⟩ = some (.int .i64 m.shi) := cell_of_block ZrW2.out 4 (by simp)
              have lrW2 := (Array.getElem?_eq_some_iff.1 ZrW2.out).1
              have eo0W2 : W2.cell? ⟨w.heap.size + 1 + 1 + 1, 0, none⟩ = some (.int .i64 0) := cell_of_block ZoW2.out 0 (by simp)
              have fo0W2 := frozen_of_block ZoW2.out 0
              have eo1W2 : W2.cell? ⟨w.heap.size + 1 + 1 + 1, 1, none⟩ = some (.int .i64 0) := cell_of_block ZoW2.out 1 (by simp)
              have fo1W2 := frozen_of_block ZoW2.out 1
              have eo2W2 : W2.cell? ⟨w.heap.size + 1 + 1 + 1, 2, none⟩ = some (.int .i64 0) := cell_of_block ZoW2.out 2 (by simp)
              have fo2W2 := frozen_of_block ZoW2.out 2
              have eo3W2 : W2.cell? ⟨w.heap.size + 1 + 1 + 1, 3, none⟩ = some (.int .i64 0) := cell_of_block ZoW2.out 3 (by simp)
              have fo3W2 := frozen_of_block ZoW2.out 3
              have eo4W2 : W2.cell? ⟨w.heap.size + 1 + 1 + 1, 4, none⟩ = some (.int .i64 0) := cell_of_block ZoW2.out 4 (by simp)
              have fo4W2 := frozen_of_block ZoW2.out 4
              have loW2 := (Array.getElem?_eq_some_iff.1 ZoW2.out).1
              have ey0W2 : W2.cell? ⟨W1.heap.size + z5.bs.size, 0, none⟩ = some (.int .i64 y.day) := cell_of_block ZyW2.out 0 (by simp)
              have ey1W2 : W2.cell? ⟨W1.heap.size + z5.bs.size, 1, none⟩ = some (.int .i64 y.alo) := cell_of_block ZyW2.out 1 (by simp)
              have ey2W2 : W2.cell? ⟨W1.heap.size + z5.bs.size, 2, none⟩ = some (.int .i64 y.ahi) := cell_of_block ZyW2.out 2 (by simp)
              have ey3W2 : W2.cell? ⟨W1.heap.size + z5.bs.size, 3, none⟩ = some (.int .i64 y.wlo) := cell_of_block ZyW2.out 3 (by simp)
              have ey4W2 : W2.cell? ⟨W1.heap.size + z5.bs.size, 4, none⟩ = some (.int .i64 y.whi) := cell_of_block ZyW2.out 4 (by simp)
              have lyW2 := (Array.getElem?_eq_some_iff.1 ZyW2.out).1
              go_wp2_with fail
              refine (Calls.grown (SH'.out _)).mono ?_
              rintro e w1 ⟨rfl, z6, rfl⟩
              go_wp2_with fail
              refine bodyPost_ret (v := .tuple #[.agg #[.int .i64 0, .int .i64 0, .int .i64 0, .int .i64 0, .int .i64 0], .int .i64 11]) (by simp [results, Try.results23, go_sem, *]) rfl ⟨rfl, ?_⟩
              exact (((((HBW2.out.gw z6).setCell (by simp <;> omega) _).setCell (by simp <;> omega) _).setCell (by simp <;> omega) _).setCell (by simp <;> omega) _).setCell (by simp <;> omega) _
          · rw [show measF C x k F G m = _ from if_neg (by rw [ME]; exact h), show measV C x k F G m = _ from if_neg (by rw [ME]; exact h), ME, zero_val]
            clear ME MA
            generalize atV C x k F G m.day = y at *
            generalize errH C x k F G m.day = E at *
            rw [show y.val = .agg #[.int .i64 y.day, .int .i64 y.alo, .int .i64 y.ahi, .int .i64 y.wlo, .int .i64 y.whi] from rfl] at AT
            have ne : (E != 0) = true := by simpa using h
            have AT' := Lib.hid AT; clear AT h
            have H1 := Lib.hid h1; clear h1
            have H2 := Lib.hid h2; clear h2
            have H3 := Lib.hid h3; clear h3
            have H4 := Lib.hid h4; clear h4
            go_enter Try.func23, Try.ntmps23
            go_wp2_with fail
            rw [HWc.out]
            go_wp2_with fail
            refine (Calls.grown (rClimate_b C _ (HC.out.below (Below.refl _ W1)) hf H1.out)).mono ?_
            rintro e w1 ⟨rfl, z1, rfl⟩
            go_wp2_with fail
            refine (Calls.gw_of (rContent_b x _ H2.out)).mono ?_
            rintro e w1 ⟨rfl, z2, rfl⟩
            go_wp2_with fail
            refine (Calls.gw_of (rStays_b C _ k cS F G _ hf hk (HS.out.below (below_gw W1 z2)) H3.out)).mono ?_
            rintro e w1 ⟨rfl, z3, rfl⟩
            go_wp2_with fail
            refine (Calls.gw_of (rValid_b m _ H4.out)).mono ?_
            rintro e w1 ⟨rfl, z4, rfl⟩
            go_wp2_with fail
            refine (Calls.gw_of (AT'.out _)).mono ?_
            rintro e w1 ⟨rfl, z5, rfl⟩
            go_upto_region 4 with (fail)
            obtain ⟨W2, hW2⟩ : ∃ W2, ((gw W1 z5)).alloc (.cells #[.int .i64 y.day, .int .i64 y.alo, .int .i64 y.ahi, .int .i64 y.wlo, .int .i64 y.whi] 28) = W2 := ⟨_, rfl⟩
            have hbW2 : Below W1.heap.size W1 W2 := by rw [← hW2]; exact (below_gw W1 z5).alloc (by simp [gw_size]) _
            have ZrW2 := Lib.hid ((hbW2.block _ (Array.getElem?_eq_some_iff.1 Zc2.out).1).trans Zc2.out)
            have ZoW2 := Lib.hid ((hbW2.block _ (Array.getElem?_eq_some_iff.1 Zc3.out).1).trans Zc3.out)
            have zyW2 : W2.heap[W1.heap.size + z5.bs.size]? = some (.cells #[.int .i64 y.day, .int .i64 y.alo, .int .i64 y.ahi, .int .i64 y.wlo, .int .i64 y.whi] 28 (0, 0)) := by rw [← hW2]; exact alloc_at (by simp [gw_size])
            have ZyW2 := Lib.hid zyW2; clear zyW2
            have HBW2 := Lib.hid (thru hbW2 HBc.out)
            have SBW2 := Lib.hid hbW2; clear hbW2
            have HWW2 := Lib.hid hW2; clear hW2
            rw [HWW2.out]
            clear c00 c01 c02 c10 c11 c12 c13 c14 c20 c21 c22 c23 c24 c30 c31 c32 c33 c34 fc30 fc31 fc32 fc33 fc34
            have er0W2 : W2.cell? ⟨w.heap.size + 1 + 1, 0, none⟩ = some (.int .i64 m.day) := cell_of_block ZrW2.out 0 (by simp)
            have er1W2 : W2.cell? ⟨w.heap.size + 1 + 1, 1, none⟩ = some (.int .i64 m.vlo) := cell_of_block ZrW2.out 1 (by simp)
            have er2W2 : W2.cell? ⟨w.heap.size + 1 + 1, 2, none⟩ = some (.int .i64 m.vhi) := cell_of_block ZrW2.out 2 (by simp)
            have er3W2 : W2.cell? ⟨w.heap.size + 1 + 1, 3, none⟩ = some (.int .i64 m.slo) := cell_of_block ZrW2.out 3 (by simp)
            have er4W2 : W2.cell? ⟨w.heap.size + 1 + 1, 4, none⟩ = some (.int .i64 m.shi) := cell_of_block ZrW2.out 4 (by simp)
            have lrW2 := (Array.getElem?_eq_some_iff.1 ZrW2.out).1
            have eo0W2 : W2.cell? ⟨w.heap.size + 1 + 1 + 1, 0, none⟩ = some (.int .i64 0) := cell_of_block ZoW2.out 0 (by simp)
            have fo0W2 := frozen_of_block ZoW2.out 0
            have eo1W2 : W2.cell? ⟨w.heap.size + 1 + 1 + 1, 1, none⟩ = some (.int .i64 0) := cell_of_block ZoW2.out 1 (by simp)
            have fo1W2 := frozen_of_block ZoW2.out 1
            have eo2W2 : W2.cell? ⟨w.heap.size + 1 + 1 + 1, 2, none⟩ = some (.int .i64 0) := cell_of_block ZoW2.out 2 (by simp)
            have fo2W2 := frozen_of_block ZoW2.out 2
            have eo3W2 : W2.cell? ⟨w.heap.size + 1 + 1 + 1, 3, none⟩ = some (.int .i64 0) := cell_of_block ZoW2.out 3 (by simp)
            have fo3W2 := frozen_of_block ZoW2.out 3
            have eo4W2 : W2.cell? ⟨w.heap.size + 1 + 1 + 1, 4, none⟩ = some (.int .i64 0) := cell_of_block ZoW2.out 4 (by simp)
            have fo4W2 := frozen_of_block ZoW2.out 4
            have loW2 := (Array.getElem?_eq_some_iff.1 ZoW2.out).1
            have ey0W2 : W2.cell? ⟨W1.heap.size + z5.bs.size, 0, none⟩ = some (.int .i64 y.day) := cell_of_block ZyW2.out 0 (by simp)
            have ey1W2 : W2.cell? ⟨W1.heap.size + z5.bs.size, 1, none⟩ = some (.int .i64 y.alo) := cell_of_block ZyW2.out 1 (by simp)
            have ey2W2 : W2.cell? ⟨W1.heap.size + z5.bs.size, 2, none⟩ = some (.int .i64 y.ahi) := cell_of_block ZyW2.out 2 (by simp)
            have ey3W2 : W2.cell? ⟨W1.heap.size + z5.bs.size, 3, none⟩ = some (.int .i64 y.wlo) := cell_of_block ZyW2.out 3 (by simp)
            have ey4W2 : W2.cell? ⟨W1.heap.size + z5.bs.size, 4, none⟩ = some (.int .i64 y.whi) := cell_of_block ZyW2.out 4 (by simp)
            have lyW2 := (Array.getElem?_eq_some_iff.1 ZyW2.out).1
            go_wp2_with fail
            refine bodyPost_ret (v := .tuple #[.agg #[.int .i64 0, .int .i64 0, .int .i64 0, .int .i64 0, .int .i64 0], .int .i64 E]) (by simp [results, Try.results23, go_sem, *]) rfl ⟨rfl, ?_⟩
            exact (((((HBW2.out).setCell (by simp <;> omega) _).setCell (by simp <;> omega) _).setCell (by simp <;> omega) _).setCell (by simp <;> omega) _).setCell (by simp <;> omega) _

set_option maxRecDepth 100000 in
set_option maxHeartbeats 4000000 in
theorem rShows_any (C : Clim) (x : Cont) (aS : Option Addr) (k cS : Nat) (F G : Nat → Int) (m : Reg) (w : World) (hC : C.In w) (hf : C.Fits) (hk : k ≤ 9223372036854775807) (hS : SpansAt w aS k F G) :
    Calls Try.prog 25 #[.agg #[.int .i64 C.days, .slice C.aA C.nA C.cA, .slice C.aW C.nW C.cW], x.val, .slice aS k cS, m.val] w fun e w' => e = .returned (.tuple #[.int .i64 (showV C x k F G m), .int .i64 (measE C x k F G m)]) ∧ Below w.heap.size w w' := by
  rw [show x.val = .agg #[.int .i64 x.day, .int .i64 x.alo, .int .i64 x.ahi, .int .i64 x.wlo, .int .i64 x.whi] from rfl, show m.val = .agg #[.int .i64 m.day, .int .i64 m.vlo, .int .i64 m.vhi, .int .i64 m.slo, .int .i64 m.shi] from rfl]
  obtain ⟨W1, hW1⟩ : ∃ W1, ((w.alloc (.cells #[.int .i64 C.days, .slice C.aA C.nA C.cA, .slice C.aW C.nW C.cW] 24)).alloc (.cells #[.int .i64 x.day, .int .i64 x.alo, .int .i64 x.ahi, .int .i64 x.wlo, .int .i64 x.whi] 28)).alloc (.cells #[.int .i64 m.day, .int .i64 m.vlo, .int .i64 m.vhi, .int .i64 m.slo, .int .i64 m.shi] 44) = W1 := ⟨_, rfl⟩
  have hBc : Below w.heap.size w W1 := by rw [← hW1]; exact ((below_alloc _ _).alloc (by simp) _).alloc (by simp <;> omega) _
  have zc0 : W1.heap[w.heap.size]? = some (.cells #[.int .i64 C.days, .slice C.aA C.nA C.cA, .slice C.aW C.nW C.cW] 24 (0, 0)) := by rw [← hW1]; exact alloc_keep (alloc_keep (alloc_at rfl))
  have zc1 : W1.heap[w.heap.size + 1]? = some (.cells #[.int .i64 x.day, .int .i64 x.alo, .int .i64 x.ahi, .int .i64 x.wlo, .int .i64 x.whi] 28 (0, 0)) := by rw [← hW1]; exact alloc_keep (alloc_at (by simp))
  have zc2 : W1.heap[w.heap.size + 1 + 1]? = some (.cells #[.int .i64 m.day, .int .i64 m.vlo, .int .i64 m.vhi, .int .i64 m.slo, .int .i64 m.shi] 44 (0, 0)) := by rw [← hW1]; exact alloc_at (by simp <;> omega)
  have c00 : W1.cell? ⟨w.heap.size, 0, none⟩ = some (.int .i64 C.days) := cell_of_block zc0 0 (by simp)
  have c01 : W1.cell? ⟨w.heap.size, 1, none⟩ = some (.slice C.aA C.nA C.cA) := cell_of_block zc0 1 (by simp)
  have c02 : W1.cell? ⟨w.heap.size, 2, none⟩ = some (.slice C.aW C.nW C.cW) := cell_of_block zc0 2 (by simp)
  have c10 : W1.cell? ⟨w.heap.size + 1, 0, none⟩ = some (.int .i64 x.day) := cell_of_block zc1 0 (by simp)
  have c11 : W1.cell? ⟨w.heap.size + 1, 1, none⟩ = some (.int .i64 x.alo) := cell_of_block zc1 1 (by simp)
  have c12 : W1.cell? ⟨w.heap.size + 1, 2, none⟩ = some (.int .i64 x.ahi) := cell_of_block zc1 2 (by simp)
  have c13 : W1.cell? ⟨w.heap.size + 1, 3, none⟩ = some (.int .i64 x.wlo) := cell_of_block zc1 3 (by simp)
  have c14 : W1.cell? ⟨w.heap.size + 1, 4, none⟩ = some (.int .i64 x.whi) := cell_of_block zc1 4 (by simp)
  have c20 : W1.cell? ⟨w.heap.size + 1 + 1, 0, none⟩ = some (.int .i64 m.day) := cell_of_block zc2 0 (by simp)
  have c21 : W1.cell? ⟨w.heap.size + 1 + 1, 1, none⟩ = some (.int .i64 m.vlo) := cell_of_block zc2 1 (by simp)
  have c22 : W1.cell? ⟨w.heap.size + 1 + 1, 2, none⟩ = some (.int .i64 m.vhi) := cell_of_block zc2 2 (by simp)
  have c23 : W1.cell? ⟨w.heap.size + 1 + 1, 3, none⟩ = some (.int .i64 m.slo) := cell_of_block zc2 3 (by simp)
  have c24 : W1.cell? ⟨w.heap.size + 1 + 1, 4, none⟩ = some (.int .i64 m.shi) := cell_of_block zc2 4 (by simp)
  have lc0 := (Array.getElem?_eq_some_iff.1 zc0).1
  have lc1 := (Array.getElem?_eq_some_iff.1 zc1).1
  have lc2 := (Array.getElem?_eq_some_iff.1 zc2).1
  have Zc0 := Lib.hid zc0
  have Zc1 := Lib.hid zc1
  have Zc2 := Lib.hid zc2
  clear zc0 zc1 zc2
  have HBc := Lib.hid hBc; clear hBc
  have HWc := Lib.hid hW1; clear hW1
  have HC := Lib.hid (hC.below HBc.out); clear hC
  have HS := Lib.hid (hS.below HBc.out); clear hS
  cases h1 : climB C with
  | false =>
    have ME := measE_one (C := C) (x := x) (k := k) (F := F) (G := G) (m := m) (by simp [h1])
    rw [show showV C x k F G m = 0 by unfold showV; rw [ME]; simp, ME]
    clear ME
    have H1 := Lib.hid h1; clear h1
    go_enter Try.func25, Try.ntmps25
    go_wp2_with fail
    rw [HWc.out]
    go_wp2_with fail
    refine (Calls.grown (rClimate_b C _ (HC.out.below (Below.refl _ W1)) hf H1.out)).mono ?_
    rintro e w1 ⟨rfl, z1, rfl⟩
    go_wp2_with fail
    go_ret2
    exact ⟨rfl, HBc.out.gw z1⟩
  | true =>
    cases h2 : contB x with
    | false =>
      have ME := measE_one (C := C) (x := x) (k := k) (F := F) (G := G) (m := m) (by simp [h1, h2])
      rw [show showV C x k F G m = 0 by unfold showV; rw [ME]; simp, ME]
      clear ME
      have H1 := Lib.hid h1; clear h1
      have H2 := Lib.hid h2; clear h2
      go_enter Try.func25, Try.ntmps25
      go_wp2_with fail
      rw [HWc.out]
      go_wp2_with fail
      refine (Calls.grown (rClimate_b C _ (HC.out.below (Below.refl _ W1)) hf H1.out)).mono ?_
      rintro e w1 ⟨rfl, z1, rfl⟩
      go_wp2_with fail
      refine (Calls.gw_of (rContent_b x _ H2.out)).mono ?_
      rintro e w1 ⟨rfl, z2, rfl⟩
      go_wp2_with fail
      go_ret2
      exact ⟨rfl, HBc.out.gw z2⟩
    | true =>
      cases h3 : staysB C.nA k F G with
      | false =>
        have ME := measE_one (C := C) (x := x) (k := k) (F := F) (G := G) (m := m) (by simp [h1, h2, h3])
        rw [show showV C x k F G m = 0 by unfold showV; rw [ME]; simp, ME]
        clear ME
        have H1 := Lib.hid h1; clear h1
        have H2 := Lib.hid h2; clear h2
        have H3 := Lib.hid h3; clear h3
        go_enter Try.func25, Try.ntmps25
        go_wp2_with fail
        rw [HWc.out]
        go_wp2_with fail
        refine (Calls.grown (rClimate_b C _ (HC.out.below (Below.refl _ W1)) hf H1.out)).mono ?_
        rintro e w1 ⟨rfl, z1, rfl⟩
        go_wp2_with fail
        refine (Calls.gw_of (rContent_b x _ H2.out)).mono ?_
        rintro e w1 ⟨rfl, z2, rfl⟩
        go_wp2_with fail
        refine (Calls.gw_of (rStays_b C _ k cS F G _ hf hk (HS.out.below (below_gw W1 z2)) H3.out)).mono ?_
        rintro e w1 ⟨rfl, z3, rfl⟩
        go_wp2_with fail
        go_ret2
        exact ⟨rfl, HBc.out.gw z3⟩
      | true =>
        cases h4 : regB m with
        | false =>
          have ME := measE_one (C := C) (x := x) (k := k) (F := F) (G := G) (m := m) (by simp [h1, h2, h3, h4])
          rw [show showV C x k F G m = 0 by unfold showV; rw [ME]; simp, ME]
          clear ME
          have H1 := Lib.hid h1; clear h1
          have H2 := Lib.hid h2; clear h2
          have H3 := Lib.hid h3; clear h3
          have H4 := Lib.hid h4; clear h4
          go_enter Try.func25, Try.ntmps25
          go_wp2_with fail
          rw [HWc.out]
          go_wp2_with fail
          refine (Calls.grown (rClimate_b C _ (HC.out.below (Below.refl _ W1)) hf H1.out)).mono ?_
          rintro e w1 ⟨rfl, z1, rfl⟩
          go_wp2_with fail
          refine (Calls.gw_of (rContent_b x _ H2.out)).mono ?_
          rintro e w1 ⟨rfl, z2, rfl⟩
          go_wp2_with fail
          refine (Calls.gw_of (rStays_b C _ k cS F G _ hf hk (HS.out.below (below_gw W1 z2)) H3.out)).mono ?_
          rintro e w1 ⟨rfl, z3, rfl⟩
          go_wp2_with fail
          refine (Calls.gw_of (rValid_b m _ H4.out)).mono ?_
          rintro e w1 ⟨rfl, z4, rfl⟩
          go_wp2_with fail
          go_ret2
          exact ⟨rfl, HBc.out.gw z4⟩
        | true =>
          have AT := fun z => rAt_any C x aS k cS F G m.day (gw W1 z) (HC.out.below (below_gw W1 z)) hf hk (HS.out.below (below_gw W1 z))
          rw [show x.val = .agg #[.int .i64 x.day, .int .i64 x.alo, .int .i64 x.ahi, .int .i64 x.wlo, .int .i64 x.whi] from rfl] at AT
          have ME : measE C x k F G m = errH C x k F G m.day := if_pos h4
          have MA : measA C x k F G m = atV C x k F G m.day := if_pos h4
          by_cases h : errH C x k F G m.day = 0
          · have SH := fun W => rshows_any (atV C x k F G m.day) m W (atV_cont h).1 h4
            rw [show showV C x k F G m = _ from if_pos (ME.trans h), MA, ME, h]
            rw [h] at AT
            clear ME MA h
            generalize showsN (atV C x k F G m.day) (measC m) = n at *
            generalize atV C x k F G m.day = y at *
            rw [show m.val = .agg #[.int .i64 m.day, .int .i64 m.vlo, .int .i64 m.vhi, .int .i64 m.slo, .int .i64 m.shi] from rfl] at SH
            rw [show y.val = .agg #[.int .i64 y.day, .int .i64 y.alo, .int .i64 y.ahi, .int .i64 y.wlo, .int .i64 y.whi] from rfl] at AT SH
            have AT' := Lib.hid AT; clear AT
            have SH' := Lib.hid SH; clear SH
            have H1 := Lib.hid h1; clear h1
            have H2 := Lib.hid h2; clear h2
            have H3 := Lib.hid h3; clear h3
            have H4 := Lib.hid h4; clear h4
            go_enter Try.func25, Try.ntmps25
            go_wp2_with fail
            rw [HWc.out]
            go_wp2_with fail
            refine (Calls.grown (rClimate_b C _ (HC.out.below (Below.refl _ W1)) hf H1.out)).mono ?_
            rintro e w1 ⟨rfl, z1, rfl⟩
            go_wp2_with fail
            refine (Calls.gw_of (rContent_b x _ H2.out)).mono ?_
            rintro e w1 ⟨rfl, z2, rfl⟩
            go_wp2_with fail
            refine (Calls.gw_of (rStays_b C _ k cS F G _ hf hk (HS.out.below (below_gw W1 z2)) H3.out)).mono ?_
            rintro e w1 ⟨rfl, z3, rfl⟩
            go_wp2_with fail
            refine (Calls.gw_of (rValid_b m _ H4.out)).mono ?_
            rintro e w1 ⟨rfl, z4, rfl⟩
            go_wp2_with fail
            refine (Calls.gw_of (AT'.out _)).mono ?_
            rintro e w1 ⟨rfl, z5, rfl⟩
            go_upto_region 4 with (fail)
            obtain ⟨W2, hW2⟩ : ∃ W2, ((gw W1 z5)).alloc (.cells #[.int .i64 y.day, .int .i64 y.alo, .int .i64 y.ahi, .int .i64 y.wlo, .int .i64 y.whi] 28) = W2 := ⟨_, rfl⟩
            have hbW2 : Below W1.heap.size W1 W2 := by rw [← hW2]; exact (below_gw W1 z5).alloc (by simp [gw_size]) _
            have ZrW2 := Lib.hid ((hbW2.block _ (Array.getElem?_eq_some_iff.1 Zc2.out).1).trans Zc2.out)
            have zyW2 : W2.heap[W1.heap.size + z5.bs.size]? = some (.cells #[.int .i64 y.day, .int .i64 y.alo, .int .i64 y.ahi, .int .i64 y.wlo, .int .i64 y.whi] 28 (0, 0)) := by rw [← hW2]; exact alloc_at (by simp [gw_size])
            have ZyW2 := Lib.hid zyW2; clear zyW2
            have HBW2 := Lib.hid (thru hbW2 HBc.out)
            have SBW2 := Lib.hid hbW2; clear hbW2
            have HWW2 := Lib.hid hW2; clear hW2
            rw [HWW2.out]
            clear c00 c01 c02 c10 c11 c12 c13 c14 c20 c21 c22 c23 c24
            have er0W2 : W2.cell? ⟨w.heap.size + 1 + 1, 0, none⟩ = some (.int .i64 m.day) := cell_of_block ZrW2.out 0 (by simp)
            have er1W2 : W2.cell? ⟨w.heap.size + 1 + 1, 1, none⟩ = some (.int .i64 m.vlo) := cell_of_block ZrW2.out 1 (by simp)
            have er2W2 : W2.cell? ⟨w.heap.size + 1 + 1, 2, none⟩ = some (.int .i64 m.vhi) := cell_of_block ZrW2.out 2 (by simp)
            have er3W2 : W2.cell? ⟨w.heap.size + 1 + 1, 3, none⟩ = some (.int .i64 m.slo) := cell_of_block ZrW2.out 3 (by simp)
            have er4W2 : W2.cell? ⟨w.heap.size + 1 + 1, 4, none⟩ = some (.int .i64 m.shi) := cell_of_block ZrW2.out 4 (by simp)
            have lrW2 := (Array.getElem?_eq_some_iff.1 ZrW2.out).1
            have ey0W2 : W2.cell? ⟨W1.heap.size + z5.bs.size, 0, none⟩ = some (.int .i64 y.day) := cell_of_block ZyW2.out 0 (by simp)
            have ey1W2 : W2.cell? ⟨W1.heap.size + z5.bs.size, 1, none⟩ = some (.int .i64 y.alo) := cell_of_block ZyW2.out 1 (by simp)
            have ey2W2 : W2.cell? ⟨W1.heap.size + z5.bs.size, 2, none⟩ = some (.int .i64 y.ahi) := cell_of_block ZyW2.out 2 (by simp)
            have ey3W2 : W2.cell? ⟨W1.heap.size + z5.bs.size, 3, none⟩ = some (.int .i64 y.wlo) := cell_of_block ZyW2.out 3 (by simp)
            have ey4W2 : W2.cell? ⟨W1.heap.size + z5.bs.size, 4, none⟩ = some (.int .i64 y.whi) := cell_of_block ZyW2.out 4 (by simp)
            have lyW2 := (Array.getElem?_eq_some_iff.1 ZyW2.out).1
            go_wp2_with fail
            refine (Calls.grown (SH'.out _)).mono ?_
            rintro e w1 ⟨rfl, z6, rfl⟩
            go_wp2_with fail
            go_ret2
            exact ⟨rfl, HBW2.out.gw z6⟩
          · rw [show showV C x k F G m = _ from if_neg (by rw [ME]; exact h), ME]
            clear ME MA
            generalize atV C x k F G m.day = y at *
            generalize errH C x k F G m.day = E at *
            rw [show y.val = .agg #[.int .i64 y.day, .int .i64 y.alo, .int .i64 y.ahi, .int .i64 y.wlo, .int .i64 y.whi] from rfl] at AT
            have ne : (E != 0) = true := by simpa using h
            have AT' := Lib.hid AT; clear AT h
            have H1 := Lib.hid h1; clear h1
            have H2 := Lib.hid h2; clear h2
            have H3 := Lib.hid h3; clear h3
            have H4 := Lib.hid h4; clear h4
            go_enter Try.func25, Try.ntmps25
            go_wp2_with fail
            rw [HWc.out]
            go_wp2_with fail
            refine (Calls.grown (rClimate_b C _ (HC.out.below (Below.refl _ W1)) hf H1.out)).mono ?_
            rintro e w1 ⟨rfl, z1, rfl⟩
            go_wp2_with fail
            refine (Calls.gw_of (rContent_b x _ H2.out)).mono ?_
            rintro e w1 ⟨rfl, z2, rfl⟩
            go_wp2_with fail
            refine (Calls.gw_of (rStays_b C _ k cS F G _ hf hk (HS.out.below (below_gw W1 z2)) H3.out)).mono ?_
            rintro e w1 ⟨rfl, z3, rfl⟩
            go_wp2_with fail
            refine (Calls.gw_of (rValid_b m _ H4.out)).mono ?_
            rintro e w1 ⟨rfl, z4, rfl⟩
            go_wp2_with fail
            refine (Calls.gw_of (AT'.out _)).mono ?_
            rintro e w1 ⟨rfl, z5, rfl⟩
            go_upto_region 4 with (fail)
            obtain ⟨W2, hW2⟩ : ∃ W2, ((gw W1 z5)).alloc (.cells #[.int .i64 y.day, .int .i64 y.alo, .int .i64 y.ahi, .int .i64 y.wlo, .int .i64 y.whi] 28) = W2 := ⟨_, rfl⟩
            have hbW2 : Below W1.heap.size W1 W2 := by rw [← hW2]; exact (below_gw W1 z5).alloc (by simp [gw_size]) _
            have ZrW2 := Lib.hid ((hbW2.block _ (Array.getElem?_eq_some_iff.1 Zc2.out).1).trans Zc2.out)
            have zyW2 : W2.heap[W1.heap.size + z5.bs.size]? = some (.cells #[.int .i64 y.day, .int .i64 y.alo, .int .i64 y.ahi, .int .i64 y.wlo, .int .i64 y.whi] 28 (0, 0)) := by rw [← hW2]; exact alloc_at (by simp [gw_size])
            have ZyW2 := Lib.hid zyW2; clear zyW2
            have HBW2 := Lib.hid (thru hbW2 HBc.out)
            have SBW2 := Lib.hid hbW2; clear hbW2
            have HWW2 := Lib.hid hW2; clear hW2
            rw [HWW2.out]
            clear c00 c01 c02 c10 c11 c12 c13 c14 c20 c21 c22 c23 c24
            have er0W2 : W2.cell? ⟨w.heap.size + 1 + 1, 0, none⟩ = some (.int .i64 m.day) := cell_of_block ZrW2.out 0 (by simp)
            have er1W2 : W2.cell? ⟨w.heap.size + 1 + 1, 1, none⟩ = some (.int .i64 m.vlo) := cell_of_block ZrW2.out 1 (by simp)
            have er2W2 : W2.cell? ⟨w.heap.size + 1 + 1, 2, none⟩ = some (.int .i64 m.vhi) := cell_of_block ZrW2.out 2 (by simp)
            have er3W2 : W2.cell? ⟨w.heap.size + 1 + 1, 3, none⟩ = some (.int .i64 m.slo) := cell_of_block ZrW2.out 3 (by simp)
            have er4W2 : W2.cell? ⟨w.heap.size + 1 + 1, 4, none⟩ = some (.int .i64 m.shi) := cell_of_block ZrW2.out 4 (by simp)
            have lrW2 := (Array.getElem?_eq_some_iff.1 ZrW2.out).1
            have ey0W2 : W2.cell? ⟨W1.heap.size + z5.bs.size, 0, none⟩ = some (.int .i64 y.day) := cell_of_block ZyW2.out 0 (by simp)
            have ey1W2 : W2.cell? ⟨W1.heap.size + z5.bs.size, 1, none⟩ = some (.int .i64 y.alo) := cell_of_block ZyW2.out 1 (by simp)
            have ey2W2 : W2.cell? ⟨W1.heap.size + z5.bs.size, 2, none⟩ = some (.int .i64 y.ahi) := cell_of_block ZyW2.out 2 (by simp)
            have ey3W2 : W2.cell? ⟨W1.heap.size + z5.bs.size, 3, none⟩ = some (.int .i64 y.wlo) := cell_of_block ZyW2.out 3 (by simp)
            have ey4W2 : W2.cell? ⟨W1.heap.size + z5.bs.size, 4, none⟩ = some (.int .i64 y.whi) := cell_of_block ZyW2.out 4 (by simp)
            have lyW2 := (Array.getElem?_eq_some_iff.1 ZyW2.out).1
            go_wp2_with fail
            go_ret2
            exact ⟨rfl, HBW2.out⟩
end Go.Proofs.Ytljofnmgddfljaa
