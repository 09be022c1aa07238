/- Contract of errorOf. No conditions beyond each theorem's own. -/
import Derived.Test.YtljofnmgddfljaaBj
set_option linter.unusedVariables false
set_option linter.unusedSimpArgs false
set_option linter.unusedSectionVars false
set_option linter.constructorNameAsVariable false
namespace Go.Proofs.Ytljofnmgddfljaa
open Go.RowKit

attribute [local go_sem] gw_cell gw_frozen gw_size

/-- the error of a later day -/
def errH (C : Clim) (x : Cont) (k : Nat) (F G : Nat → Int) (day : Int) : Int :=
  if climB C = true ∧ contB x = true ∧ staysB C.nA k F G = true then
    if inB day 0 65536 = true then if day < x.day then 7 else if x.day < F 0 ∧ x.day < day then 4 else 0 else 2
  else 1

set_option maxRecDepth 100000 in
set_option maxHeartbeats 400000 in
theorem errorOf_any (C : Clim) (x : Cont) (aS : Option Addr) (k cS : Nat) (F G : Nat → Int) (day : Int) (w : World) (hC : C.In w) (hf : C.Fits) (hk : k ≤ 9223372036854775807) (hS : SpansAt w aS k F G) :
    Calls Try.prog 48 #[.agg #[.int .i64 C.days, .slice C.aA C.nA C.cA, .slice C.aW C.nW C.cW], .agg #[.int .i64 x.day, .int .i64 x.alo, .int .i64 x.ahi, .int .i64 x.wlo, .int .i64 x.whi], .slice aS k cS, .int .i64 day] w fun e w' => e = .returned (.int .i64 (errH C x k F G day)) ∧ Below w.heap.size w w' := by
  obtain ⟨E, hE⟩ : ∃ E, errH C x k F G day = E := ⟨_, rfl⟩
  have EE := Lib.hid hE
  unfold errH at hE
  have HE := Lib.hid hE; clear hE
  rw [EE.out]
  obtain ⟨W1, hW1⟩ : ∃ W1, (w.alloc (.cells #[.int .i64 C.days, .slice C.aA C.nA C.cA, .slice C.aW C.nW C.cW] 24)).alloc (.cells #[.int .i64 x.day, .int .i64 x.alo, .int .i64 x.ahi, .int .i64 x.wlo, .int .i64 x.whi] 28) = W1 := ⟨_, rfl⟩
  have hB : Below w.heap.size w W1 := by rw [← hW1]; exact (below_alloc _ _).alloc (by simp) _
  have z1 : W1.heap[w.heap.size]? = some (.cells #[.int .i64 C.days, .slice C.aA C.nA C.cA, .slice C.aW C.nW C.cW] 24 (0, 0)) := by rw [← hW1]; exact alloc_keep (alloc_at rfl)
  have z2 : W1.heap[w.heap.size + 1]? = some (.cells #[.int .i64 x.day, .int .i64 x.alo, .int .i64 x.ahi, .int .i64 x.wlo, .int .i64 x.whi] 28 (0, 0)) := by rw [← hW1]; exact alloc_at (by simp)
  have c0 : W1.cell? ⟨w.heap.size, 0, none⟩ = some (.int .i64 C.days) := cell_of_block z1 0 (by simp)
  have c1 : W1.cell? ⟨w.heap.size, 1, none⟩ = some (.slice C.aA C.nA C.cA) := cell_of_block z1 1 (by simp)
  have c2 : W1.cell? ⟨w.heap.size, 2, none⟩ = some (.slice C.aW C.nW C.cW) := cell_of_block z1 2 (by simp)
  have d0 : W1.cell? ⟨w.heap.size + 1, 0, none⟩ = some (.int .i64 x.day) := cell_of_block z2 0 (by simp)
  have d1 : W1.cell? ⟨w.heap.size + 1, 1, none⟩ = some (.int .i64 x.alo) := cell_of_block z2 1 (by simp)
  have d2 : W1.cell? ⟨w.heap.size + 1, 2, none⟩ = some (.int .i64 x.ahi) := cell_of_block z2 2 (by simp)
  have d3 : W1.cell? ⟨w.heap.size + 1, 3, none⟩ = some (.int .i64 x.wlo) := cell_of_block z2 3 (by simp)
  have d4 : W1.cell? ⟨w.heap.size + 1, 4, none⟩ = some (.int .i64 x.whi) := cell_of_block z2 4 (by simp)
  have l1 := (Array.getElem?_eq_some_iff.1 z1).1
  have l2 := (Array.getElem?_eq_some_iff.1 z2).1
  have HC := Lib.hid (hC.below hB); clear hC
  have HS := Lib.hid (hS.below hB); clear hS
  have HB := Lib.hid hB; clear hB
  have HW1 := Lib.hid hW1; clear hW1 z1 z2
  cases h1 : climB C with
  | false =>
    have EV := Lib.hid (show E = 1 by rw [← HE.out]; simp [h1])
    have H1 := Lib.hid h1; clear h1
    go_enter Try.func48, Try.ntmps48
    go_wp2_with fail
    rw [HW1.out]
    go_wp2_with fail
    refine (Calls.grown (isClimate_b C _ HC.out hf H1.out)).mono ?_
    rintro e w1 ⟨rfl, z1, rfl⟩
    go_wp2_with fail
    go_ret
    exact ⟨by rw [EV.out]; rfl, HB.out.gw z1⟩
  | true =>
    cases h2 : contB x with
    | false =>
      have EV := Lib.hid (show E = 1 by rw [← HE.out]; simp [h2])
      have H1 := Lib.hid h1; clear h1
      have H2 := Lib.hid h2; clear h2
      go_enter Try.func48, Try.ntmps48
      go_wp2_with fail
      rw [HW1.out]
      go_wp2_with fail
      refine (Calls.grown (isClimate_b C _ HC.out hf H1.out)).mono ?_
      rintro e w1 ⟨rfl, z1, rfl⟩
      go_wp2_with fail
      refine (Calls.gw_of (isContent_b x _ H2.out)).mono ?_
      rintro e w1 ⟨rfl, z2, rfl⟩
      go_wp2_with fail
      go_ret
      exact ⟨by rw [EV.out]; rfl, HB.out.gw z2⟩
    | true =>
      cases h3 : staysB C.nA k F G with
      | false =>
        have EV := Lib.hid (show E = 1 by rw [← HE.out]; simp [h3])
        have H1 := Lib.hid h1; clear h1
        have H2 := Lib.hid h2; clear h2
        have H3 := Lib.hid h3; clear h3
        go_enter Try.func48, Try.ntmps48
        go_wp2_with fail
        rw [HW1.out]
        go_wp2_with fail
        refine (Calls.grown (isClimate_b C _ HC.out hf H1.out)).mono ?_
        rintro e w1 ⟨rfl, z1, rfl⟩
        go_wp2_with fail
        refine (Calls.gw_of (isContent_b x _ H2.out)).mono ?_
        rintro e w1 ⟨rfl, z2, rfl⟩
        go_wp2_with fail
        refine (Calls.gw_of (areStays_b C _ k cS F G _ hf hk (HS.out.below (below_gw W1 z2)) H3.out)).mono ?_
        rintro e w1 ⟨rfl, z3, rfl⟩
        go_wp2_with fail
        go_ret
        exact ⟨by rw [EV.out]; rfl, HB.out.gw z3⟩
      | true =>
        cases h4 : inB day 0 65536 with
        | false =>
          have EV := Lib.hid (show E = 2 by rw [← HE.out]; simp [h1, h2, h3, h4])
          have H1 := Lib.hid h1; clear h1
          have H2 := Lib.hid h2; clear h2
          have H3 := Lib.hid h3; clear h3
          have H4 := Lib.hid h4; clear h4
          go_enter Try.func48, Try.ntmps48
          go_wp2_with fail
          rw [HW1.out]
          go_wp2_with fail
          refine (Calls.grown (isClimate_b C _ HC.out hf H1.out)).mono ?_
          rintro e w1 ⟨rfl, z1, rfl⟩
          go_wp2_with fail
          refine (Calls.gw_of (isContent_b x _ H2.out)).mono ?_
          rintro e w1 ⟨rfl, z2, rfl⟩
          go_wp2_with fail
          refine (Calls.gw_of (areStays_b C _ k cS F G _ hf hk (HS.out.below (below_gw W1 z2)) H3.out)).mono ?_
          rintro e w1 ⟨rfl, z3, rfl⟩
          go_wp2_with fail
          refine (within_b _ _ _ _ H4.out).mono ?_
          rintro e w1 ⟨rfl, rfl⟩
          go_wp2_with fail
          go_ret
          exact ⟨by rw [EV.out]; rfl, HB.out.gw z3⟩
        | true =>
          by_cases h5 : day < x.day
          · have h6 := h5
            have EV := Lib.hid (show E = 7 by rw [← HE.out]; simp [h1, h2, h3, h4, h5])
            have H1 := Lib.hid h1; clear h1
            have H2 := Lib.hid h2; clear h2
            have H3 := Lib.hid h3; clear h3
            have H4 := Lib.hid h4; clear h4
            have H6 := Lib.hid h6; clear h6
            go_enter Try.func48, Try.ntmps48
            go_wp2_with fail
            rw [HW1.out]
            go_wp2_with fail
            refine (Calls.grown (isClimate_b C _ HC.out hf H1.out)).mono ?_
            rintro e w1 ⟨rfl, z1, rfl⟩
            go_wp2_with fail
            refine (Calls.gw_of (isContent_b x _ H2.out)).mono ?_
            rintro e w1 ⟨rfl, z2, rfl⟩
            go_wp2_with fail
            refine (Calls.gw_of (areStays_b C _ k cS F G _ hf hk (HS.out.below (below_gw W1 z2)) H3.out)).mono ?_
            rintro e w1 ⟨rfl, z3, rfl⟩
            go_wp2_with fail
            refine (within_b _ _ _ _ H4.out).mono ?_
            rintro e w1 ⟨rfl, rfl⟩
            go_wp2_with fail
            go_ret
            exact ⟨by rw [EV.out]; rfl, HB.out.gw z3⟩
          · have kn := (staysB_t h3).1.1
            rcases HS.out with h0 | ⟨b, off, rfl, lb, hc⟩
            · omega
            have f0 : W1.cell? ⟨b, off, none⟩ = some (.int .i64 (F 0)) := by simpa using (hc 0 (by omega)).1
            clear hc
            by_cases h6 : x.day < F 0 <;> by_cases h7 : x.day < day
            all_goals
              have EV := Lib.hid (show E = if x.day < F 0 ∧ x.day < day then 4 else 0 by rw [← HE.out]; simp [h1, h2, h3, h4, h5])
              simp only [h6, h7, and_self, and_true, and_false, false_and, true_and, if_true, if_false] at EV
              first | have h8 : decide (x.day < F 0) = false := (by (simp; omega)) | skip
              have H1 := Lib.hid h1; clear h1
              have H2 := Lib.hid h2; clear h2
              have H3 := Lib.hid h3; clear h3
              have H4 := Lib.hid h4; clear h4
              go_enter Try.func48, Try.ntmps48
              go_wp2_with fail
              rw [HW1.out]
              go_wp2_with fail
              refine (Calls.grown (isClimate_b C _ HC.out hf H1.out)).mono ?_
              rintro e w1 ⟨rfl, z1, rfl⟩
              go_wp2_with fail
              refine (Calls.gw_of (isContent_b x _ H2.out)).mono ?_
              rintro e w1 ⟨rfl, z2, rfl⟩
              go_wp2_with fail
              refine (Calls.gw_of (areStays_b C _ k cS F G _ hf hk (HS.out.below (below_gw W1 z2)) H3.out)).mono ?_
              rintro e w1 ⟨rfl, z3, rfl⟩
              go_wp2_with fail
              refine (within_b _ _ _ _ H4.out).mono ?_
              rintro e w1 ⟨rfl, rfl⟩
              go_wp2_with fail
              refine wp_region_gw2 (by kernel_rfl) (by kernel_rfl) ?_
              repeat (go_big_quiet_step (fail))
              refine wpQuiet_nil ?_
              rintro _ ⟨z4, rfl⟩
              go_wp2_with fail
              go_ret
              exact ⟨by rw [EV.out]; rfl, HB.out.gw z4⟩
end Go.Proofs.Ytljofnmgddfljaa
