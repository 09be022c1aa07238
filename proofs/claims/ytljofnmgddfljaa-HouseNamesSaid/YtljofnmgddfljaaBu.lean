/- Contract of the reference's Weak. No conditions beyond each theorem's own. -/
import Derived.Test.YtljofnmgddfljaaBt
set_option linter.unusedVariables false
set_option linter.unusedSimpArgs false
set_option linter.unusedSectionVars false
set_option linter.constructorNameAsVariable false
namespace Go.Proofs.Ytljofnmgddfljaa
open Go.RowKit

theorem field_lo (x y : Int) (w : World) : Sem.run Try.prog (Instr.field 26 (.agg #[.int .i64 x, .int .i64 y]) 0) w = .ok (.int .i64 x) w := by kernel_rfl
attribute [local go_sem] gw_cell gw_frozen gw_size field_lo

set_option maxRecDepth 100000 in
set_option maxHeartbeats 4000000 in
theorem rWeak_err (C : Clim) (x : Cont) (aS : Option Addr) (k cS : Nat) (F G : Nat → Int) (tu least : Int) (w : World) (hC : C.In w) (hf : C.Fits) (hk : k ≤ 9223372036854775807) (hS : SpansAt w aS k F G) {E : Int} (hE : weakErr C x k F G tu least = E) (h0 : E ≠ 0) :
    Calls Try.prog 38 #[.agg #[.int .i64 C.days, .slice C.aA C.nA C.cA, .slice C.aW C.nW C.cW], x.val, .slice aS k cS, .int .i64 tu, .int .i64 least] w fun e w' => e = .returned (.tuple #[.int .i64 0, .int .i64 E]) ∧ Below w.heap.size w w' := by
  unfold Cont.val
  obtain ⟨W1, hW1⟩ : ∃ W1, (w.alloc (.cells #[.int .i64 C.days, .slice C.aA C.nA C.cA, .slice C.aW C.nW C.cW] 24)).alloc (.cells #[.int .i64 x.day, .int .i64 x.alo, .int .i64 x.ahi, .int .i64 x.wlo, .int .i64 x.whi] 28) = W1 := ⟨_, rfl⟩
  have hBc : Below w.heap.size w W1 := by rw [← hW1]; exact (below_alloc _ _).alloc (by simp) _
  have zc0 : W1.heap[w.heap.size]? = some (.cells #[.int .i64 C.days, .slice C.aA C.nA C.cA, .slice C.aW C.nW C.cW] 24 (0, 0)) := by rw [← hW1]; exact alloc_keep (alloc_at rfl)
  have zc1 : W1.heap[w.heap.size + 1]? = some (.cells #[.int .i64 x.day, .int .i64 x.alo, .int .i64 x.ahi, .int .i64 x.wlo, .int .i64 x.whi] 28 (0, 0)) := by rw [← hW1]; exact alloc_at (by simp)
  have c00 : W1.cell? ⟨w.heap.size, 0, none⟩ = some (.int .i64 C.days) := cell_of_block zc0 0 (by simp)
  have c01 : W1.cell? ⟨w.heap.size, 1, none⟩ = some (.slice C.aA C.nA C.cA) := cell_of_block zc0 1 (by simp)
  have c02 : W1.cell? ⟨w.heap.size, 2, none⟩ = some (.slice C.aW C.nW C.cW) := cell_of_block zc0 2 (by simp)
  have c10 : W1.cell? ⟨w.heap.size + 1, 0, none⟩ = some (.int .i64 x.day) := cell_of_block zc1 0 (by simp)
  have c11 : W1.cell? ⟨w.heap.size + 1, 1, none⟩ = some (.int .i64 x.alo) := cell_of_block zc1 1 (by simp)
  have c12 : W1.cell? ⟨w.heap.size + 1, 2, none⟩ = some (.int .i64 x.ahi) := cell_of_block zc1 2 (by simp)
  have c13 : W1.cell? ⟨w.heap.size + 1, 3, none⟩ = some (.int .i64 x.wlo) := cell_of_block zc1 3 (by simp)
  have c14 : W1.cell? ⟨w.heap.size + 1, 4, none⟩ = some (.int .i64 x.whi) := cell_of_block zc1 4 (by simp)
  have lc0 := (Array.getElem?_eq_some_iff.1 zc0).1
  have lc1 := (Array.getElem?_eq_some_iff.1 zc1).1
  have Zc0 := Lib.hid zc0
  have Zc1 := Lib.hid zc1
  clear zc0 zc1
  have HBc := Lib.hid hBc; clear hBc
  have HWc := Lib.hid hW1; clear hW1
  have HC := Lib.hid (hC.below HBc.out); clear hC
  have HS := Lib.hid (hS.below HBc.out); clear hS
  have ER := fun z => rerrors_any C x aS k cS F G tu (gw W1 z) (HC.out.below (below_gw W1 z)) hf hk (HS.out.below (below_gw W1 z))
  cases h1 : climB C with
  | false =>
    have EV : E = 1 := by rw [← hE]; simp [weakErr, errH, h1]
    subst EV
    have H1 := Lib.hid h1; clear h1
    go_enter Try.func38, Try.ntmps38
    go_wp2_with fail
    rw [HWc.out]
    go_wp2_with fail
    refine (Calls.grown (rClimate_b C _ (HC.out.below (Below.refl _ W1)) hf H1.out)).mono ?_
    rintro e w1 ⟨rfl, z1, rfl⟩
    go_wp2_with fail
    go_ret2
    exact ⟨rfl, HBc.out.gw z1⟩
  | true =>
    cases h2 : contB x with
    | false =>
      have EV : E = 1 := by rw [← hE]; simp [weakErr, errH, h2]
      subst EV
      have H1 := Lib.hid h1; clear h1
      have H2 := Lib.hid h2; clear h2
      go_enter Try.func38, Try.ntmps38
      go_wp2_with fail
      rw [HWc.out]
      go_wp2_with fail
      refine (Calls.grown (rClimate_b C _ (HC.out.below (Below.refl _ W1)) hf H1.out)).mono ?_
      rintro e w1 ⟨rfl, z1, rfl⟩
      go_wp2_with fail
      refine (Calls.gw_of (rContent_b x _ H2.out)).mono ?_
      rintro e w1 ⟨rfl, z2, rfl⟩
      go_wp2_with fail
      go_ret2
      exact ⟨rfl, HBc.out.gw z2⟩
    | true =>
      cases h3 : staysB C.nA k F G with
      | false =>
        have EV : E = 1 := by rw [← hE]; simp [weakErr, errH, h3]
        subst EV
        have H1 := Lib.hid h1; clear h1
        have H2 := Lib.hid h2; clear h2
        have H3 := Lib.hid h3; clear h3
        go_enter Try.func38, Try.ntmps38
        go_wp2_with fail
        rw [HWc.out]
        go_wp2_with fail
        refine (Calls.grown (rClimate_b C _ (HC.out.below (Below.refl _ W1)) hf H1.out)).mono ?_
        rintro e w1 ⟨rfl, z1, rfl⟩
        go_wp2_with fail
        refine (Calls.gw_of (rContent_b x _ H2.out)).mono ?_
        rintro e w1 ⟨rfl, z2, rfl⟩
        go_wp2_with fail
        refine (Calls.gw_of (rStays_b C _ k cS F G _ hf hk (HS.out.below (below_gw W1 z2)) H3.out)).mono ?_
        rintro e w1 ⟨rfl, z3, rfl⟩
        go_wp2_with fail
        go_ret2
        exact ⟨rfl, HBc.out.gw z3⟩
      | true =>
        cases h4 : inB tu 0 65536 with
        | false =>
          have EV : E = 2 := by rw [← hE]; simp [weakErr, errH, h1, h2, h3, h4]
          subst EV
          have H1 := Lib.hid h1; clear h1
          have H2 := Lib.hid h2; clear h2
          have H3 := Lib.hid h3; clear h3
          have H4 := Lib.hid h4; clear h4
          go_enter Try.func38, Try.ntmps38
          go_wp2_with fail
          rw [HWc.out]
          go_wp2_with fail
          refine (Calls.grown (rClimate_b C _ (HC.out.below (Below.refl _ W1)) hf H1.out)).mono ?_
          rintro e w1 ⟨rfl, z1, rfl⟩
          go_wp2_with fail
          refine (Calls.gw_of (rContent_b x _ H2.out)).mono ?_
          rintro e w1 ⟨rfl, z2, rfl⟩
          go_wp2_with fail
          refine (Calls.gw_of (rStays_b C _ k cS F G _ hf hk (HS.out.below (below_gw W1 z2)) H3.out)).mono ?_
          rintro e w1 ⟨rfl, z3, rfl⟩
          go_wp2_with fail
          refine (rin_b _ _ _ _ H4.out).mono ?_
          rintro e w1 ⟨rfl, rfl⟩
          go_wp2_with fail
          go_ret2
          exact ⟨rfl, HBc.out.gw z3⟩
        | true =>
          cases h5 : inB least 0 10000 with
          | false =>
            have EV : E = 2 := by
              rw [← hE]
              have : errH C x k F G tu ≠ 1 := by unfold errH; simp only [h1, h2, h3, h4, and_self, if_true]; split <;> (try split) <;> omega
              unfold weakErr
              rw [if_neg this, h5]; simp
            subst EV
            have H1 := Lib.hid h1; clear h1
            have H2 := Lib.hid h2; clear h2
            have H3 := Lib.hid h3; clear h3
            have H4 := Lib.hid h4; clear h4
            have H5 := Lib.hid h5; clear h5
            go_enter Try.func38, Try.ntmps38
            go_wp2_with fail
            rw [HWc.out]
            go_wp2_with fail
            refine (Calls.grown (rClimate_b C _ (HC.out.below (Below.refl _ W1)) hf H1.out)).mono ?_
            rintro e w1 ⟨rfl, z1, rfl⟩
            go_wp2_with fail
            refine (Calls.gw_of (rContent_b x _ H2.out)).mono ?_
            rintro e w1 ⟨rfl, z2, rfl⟩
            go_wp2_with fail
            refine (Calls.gw_of (rStays_b C _ k cS F G _ hf hk (HS.out.below (below_gw W1 z2)) H3.out)).mono ?_
            rintro e w1 ⟨rfl, z3, rfl⟩
            go_wp2_with fail
            refine (rin_b _ _ _ _ H4.out).mono ?_
            rintro e w1 ⟨rfl, rfl⟩
            go_wp2_with fail
            refine (rin_b _ _ _ _ H5.out).mono ?_
            rintro e w1 ⟨rfl, rfl⟩
            go_wp2_with fail
            go_ret2
            exact ⟨rfl, HBc.out.gw z3⟩
          | true =>
            have hE2 : errH C x k F G tu = E := by
              rw [← hE]
              unfold weakErr
              split
              · rename_i h; exact h
              · first | rfl | (rw [h5]; simp)
            rw [hE2] at ER
            have ne : (E != 0) = true := by simpa using h0
            have ER' := Lib.hid ER; clear ER hE hE2
            have H1 := Lib.hid h1; clear h1
            have H2 := Lib.hid h2; clear h2
            have H3 := Lib.hid h3; clear h3
            have H4 := Lib.hid h4; clear h4
            have H5 := Lib.hid h5; clear h5
            go_enter Try.func38, Try.ntmps38
            go_wp2_with fail
            rw [HWc.out]
            go_wp2_with fail
            refine (Calls.grown (rClimate_b C _ (HC.out.below (Below.refl _ W1)) hf H1.out)).mono ?_
            rintro e w1 ⟨rfl, z1, rfl⟩
            go_wp2_with fail
            refine (Calls.gw_of (rContent_b x _ H2.out)).mono ?_
            rintro e w1 ⟨rfl, z2, rfl⟩
            go_wp2_with fail
            refine (Calls.gw_of (rStays_b C _ k cS F G _ hf hk (HS.out.below (below_gw W1 z2)) H3.out)).mono ?_
            rintro e w1 ⟨rfl, z3, rfl⟩
            go_wp2_with fail
            refine (rin_b _ _ _ _ H4.out).mono ?_
            rintro e w1 ⟨rfl, rfl⟩
            go_wp2_with fail
            refine (rin_b _ _ _ _ H5.out).mono ?_
            rintro e w1 ⟨rfl, rfl⟩
            go_wp2_with fail
            refine (Calls.gw_of (ER'.out _)).mono ?_
            rintro e w1 ⟨rfl, z4, rfl⟩
            go_wp2_with fail
            go_ret2
            exact ⟨rfl, HBc.out.gw z4⟩

set_option maxRecDepth 100000 in
set_option maxHeartbeats 4000000 in
theorem rWeak_ok (C : Clim) (x : Cont) (aS : Option Addr) (k cS : Nat) (F G : Nat → Int) (tu least : Int) (w : World) (hC : C.In w) (hf : C.Fits) (hk : k ≤ 9223372036854775807) (hS : SpansAt w aS k F G) (hE : weakErr C x k F G tu least = 0) :
    Calls Try.prog 38 #[.agg #[.int .i64 C.days, .slice C.aA C.nA C.cA, .slice C.aW C.nW C.cW], x.val, .slice aS k cS, .int .i64 tu, .int .i64 least] w fun e w' => e = .returned (.tuple #[.int .i64 (weakV C x k F G (tu - x.day).toNat least), .int .i64 (weakE C x k F G (tu - x.day).toNat least)]) ∧ Below w.heap.size w w' := by
  have hE2 : errH C x k F G tu = 0 ∧ inB least 0 10000 = true := by
    unfold weakErr at hE
    split at hE
    · omega
    · split at hE
      · rename_i h; exact ⟨hE, h⟩
      · omega
  obtain ⟨hE1, h5⟩ := hE2
  clear hE
  obtain ⟨h1, h2, h3, g4, g5, g6⟩ := errH_zero hE1
  obtain ⟨m, hm⟩ : ∃ m : Nat, (tu - x.day).toNat = m := ⟨_, rfl⟩
  rw [hm]
  have hmd : x.day + m = tu := by omega
  clear hm
  have h4 : inB tu 0 65536 = true := inB_t.2 ⟨by have := (contB_t h2).1; omega, g5⟩
  rw [show x.val = .agg #[.int .i64 x.day, .int .i64 x.alo, .int .i64 x.ahi, .int .i64 x.wlo, .int .i64 x.whi] from rfl]
  obtain ⟨W1, hW1⟩ : ∃ W1, (w.alloc (.cells #[.int .i64 C.days, .slice C.aA C.nA C.cA, .slice C.aW C.nW C.cW] 24)).alloc (.cells #[.int .i64 x.day, .int .i64 x.alo, .int .i64 x.ahi, .int .i64 x.wlo, .int .i64 x.whi] 28) = W1 := ⟨_, rfl⟩
  have hBc : Below w.heap.size w W1 := by rw [← hW1]; exact (below_alloc _ _).alloc (by simp) _
  have zc0 : W1.heap[w.heap.size]? = some (.cells #[.int .i64 C.days, .slice C.aA C.nA C.cA, .slice C.aW C.nW C.cW] 24 (0, 0)) := by rw [← hW1]; exact alloc_keep (alloc_at rfl)
  have zc1 : W1.heap[w.heap.size + 1]? = some (.cells #[.int .i64 x.day, .int .i64 x.alo, .int .i64 x.ahi, .int .i64 x.wlo, .int .i64 x.whi] 28 (0, 0)) := by rw [← hW1]; exact alloc_at (by simp)
  have c00 : W1.cell? ⟨w.heap.size, 0, none⟩ = some (.int .i64 C.days) := cell_of_block zc0 0 (by simp)
  have c01 : W1.cell? ⟨w.heap.size, 1, none⟩ = some (.slice C.aA C.nA C.cA) := cell_of_block zc0 1 (by simp)
  have c02 : W1.cell? ⟨w.heap.size, 2, none⟩ = some (.slice C.aW C.nW C.cW) := cell_of_block zc0 2 (by simp)
  have c10 : W1.cell? ⟨w.heap.size + 1, 0, none⟩ = some (.int .i64 x.day) := cell_of_block zc1 0 (by simp)
  have c11 : W1.cell? ⟨w.heap.size + 1, 1, none⟩ = some (.int .i64 x.alo) := cell_of_block zc1 1 (by simp)
  have c12 : W1.cell? ⟨w.heap.size + 1, 2, none⟩ = some (.int .i64 x.ahi) := cell_of_block zc1 2 (by simp)
  have c13 : W1.cell? ⟨w.heap.size + 1, 3, none⟩ = some (.int .i64 x.wlo) := cell_of_block zc1 3 (by simp)
  have c14 : W1.cell? ⟨w.heap.size + 1, 4, none⟩ = some (.int .i64 x.whi) := cell_of_block zc1 4 (by simp)
  have lc0 := (Array.getElem?_eq_some_iff.1 zc0).1
  have lc1 := (Array.getElem?_eq_some_iff.1 zc1).1
  have Zc0 := Lib.hid zc0
  have Zc1 := Lib.hid zc1
  clear zc0 zc1
  have HBc := Lib.hid hBc; clear hBc
  have HWc := Lib.hid hW1; clear hW1
  have HC := Lib.hid (hC.below HBc.out)
  have HS := Lib.hid (hS.below HBc.out)
  have HCW := Lib.hid hC; clear hC
  have HSW := Lib.hid hS; clear hS
  have ER := fun z => rerrors_any C x aS k cS F G tu (gw W1 z) (HC.out.below (below_gw W1 z)) hf hk (HS.out.below (below_gw W1 z))
  rw [hE1] at ER
  have ER' := Lib.hid ER; clear ER hE1
  have FM := Lib.hid g6; clear g6
  have MD := Lib.hid hmd; clear hmd
  have DC := Lib.hid (dayC_ok h1 h3 h2); clear g4
  have g1 := Lib.hid h1
  have g3 := Lib.hid h3
  have H1 := Lib.hid h1; clear h1
  have H2 := Lib.hid h2; clear h2
  have H3 := Lib.hid h3; clear h3
  have H4 := Lib.hid h4; clear h4
  have H5 := Lib.hid h5; clear h5
  go_enter Try.func38, Try.ntmps38
  go_wp2_with fail
  rw [HWc.out]
  go_wp2_with fail
  refine (Calls.grown (rClimate_b C _ (HC.out.below (Below.refl _ W1)) hf H1.out)).mono ?_
  rintro e w1 ⟨rfl, z1, rfl⟩
  go_wp2_with fail
  refine (Calls.gw_of (rContent_b x _ H2.out)).mono ?_
  rintro e w1 ⟨rfl, z2, rfl⟩
  go_wp2_with fail
  refine (Calls.gw_of (rStays_b C _ k cS F G _ hf hk (HS.out.below (below_gw W1 z2)) H3.out)).mono ?_
  rintro e w1 ⟨rfl, z3, rfl⟩
  go_wp2_with fail
  refine (rin_b _ _ _ _ H4.out).mono ?_
  rintro e w1 ⟨rfl, rfl⟩
  go_wp2_with fail
  refine (rin_b _ _ _ _ H5.out).mono ?_
  rintro e w1 ⟨rfl, rfl⟩
  go_wp2_with fail
  refine (Calls.gw_of (ER'.out _)).mono ?_
  rintro e w1 ⟨rfl, z4, rfl⟩
  go_wp2_with fail
  have K0 := Lib.hid (((below_gw W1 z4).block _ lc0).trans Zc0.out)
  have K1 := Lib.hid (((below_gw W1 z4).block _ lc1).trans Zc1.out)
  have BW := Lib.hid (HBc.out.gw z4)
  clear c00 c01 c02 c10 c11 c12 c13 c14 lc0 lc1
  go_loopw [43] (fun _ wr => ∃ j : Nat, j ≤ m ∧ Hid (∀ i, i < j → least ≤ strLo (dayC C F G k x i)) ∧ wr.heap[w.heap.size]? = some (.cells #[.int .i64 C.days, .slice C.aA C.nA C.cA, .slice C.aW C.nW C.cW] 24 (0, 0)) ∧ wr.heap[w.heap.size + 1]? = some (.cells (dayC C F G k x j).cells 28 (0, 0)) ∧ Below w.heap.size w wr)
    (fun _ wr => (tu - intOf ((wr.cell? ⟨w.heap.size + 1, 0, none⟩).getD undef)).toNat)
  case atStart => exact ⟨0, Nat.zero_le _, Lib.hid (fun i hi => by omega), K0.out, K1.out, BW.out⟩
  case round =>
    obtain ⟨j, hj, hal, h0, h1, hb⟩ := hrel
    obtain ⟨oy, ey⟩ := DC.out j (by have := MD.out; omega)
    have SV := fun W => rstrength_any (dayC C F G k x j) W oy
    have EN := Lib.hid (show dayC C F G k x (j + 1) = (dayC C F G k x j).next C F G k from rfl)
    obtain ⟨y, hyy⟩ : ∃ y, dayC C F G k x j = y := ⟨_, rfl⟩
    rw [hyy] at oy ey h1 EN SV
    obtain ⟨A, hA⟩ : ∃ A, strLo y = A := ⟨_, rfl⟩
    rw [hA, show y.val = .agg #[.int .i64 y.day, .int .i64 y.alo, .int .i64 y.ahi, .int .i64 y.wlo, .int .i64 y.whi] from rfl] at SV
    have HA := Lib.hid hA; clear hA
    have SV' := Lib.hid SV; clear SV
    have DL : j < m ↔ y.day < tu := by have := MD.out; omega
    have a0 := cell_of_block h0 0 (by simp)
    have a1 := cell_of_block h0 1 (by simp)
    have a2 := cell_of_block h0 2 (by simp)
    have b0 : wr.cell? ⟨w.heap.size + 1, 0, none⟩ = some (.int .i64 y.day) := cell_of_block h1 0 (by simp [Cont.cells])
    have b1 : wr.cell? ⟨w.heap.size + 1, 1, none⟩ = some (.int .i64 y.alo) := cell_of_block h1 1 (by simp [Cont.cells])
    have b2 : wr.cell? ⟨w.heap.size + 1, 2, none⟩ = some (.int .i64 y.ahi) := cell_of_block h1 2 (by simp [Cont.cells])
    have b3 : wr.cell? ⟨w.heap.size + 1, 3, none⟩ = some (.int .i64 y.wlo) := cell_of_block h1 3 (by simp [Cont.cells])
    have b4 : wr.cell? ⟨w.heap.size + 1, 4, none⟩ = some (.int .i64 y.whi) := cell_of_block h1 4 (by simp [Cont.cells])
    have l0 := (Array.getElem?_eq_some_iff.1 h0).1
    have l1 := (Array.getElem?_eq_some_iff.1 h1).1
    have HB := Lib.hid hb; clear hb
    have H0 := Lib.hid h0; clear h0
    have H1' := Lib.hid h1; clear h1
    have HYY := Lib.hid hyy; clear hyy
    have EY := Lib.hid ey; clear ey
    simp at a0 a1 a2
    by_cases hlt : A < least
    · have WN := weak_found hj hal.out (by rw [HYY.out, HA.out]; exact hlt)
      have ed := EY.out
      have WN' := Lib.hid WN; clear WN ed DL
      go_wp2_with fail
      refine (Calls.grown (SV'.out _)).mono ?_
      rintro e w1 ⟨rfl, z', rfl⟩
      go_wp2_with fail
      go_ret2
      exact ⟨by rw [WN'.out.1, WN'.out.2, ← EY.out]; rfl, HB.out.gw z'⟩
    · by_cases hjm : j < m
      · have dl := DL.1 hjm
        have ne : (y.day == tu) = false := by simp; omega
        have NE := fun z => rnext_any C y aS k cS F G (gw wr z) (HCW.out.below (HB.out.gw z)) (HSW.out.below (HB.out.gw z)) g1.out g3.out oy (by have := FM.out (by have := MD.out; omega); have := EY.out; omega) (by omega)
        rw [← EN.out] at NE
        obtain ⟨u, hu⟩ : ∃ u, dayC C F G k x (j + 1) = u := ⟨_, rfl⟩
        rw [hu] at NE EN
        rw [show y.val = .agg #[.int .i64 y.day, .int .i64 y.alo, .int .i64 y.ahi, .int .i64 y.wlo, .int .i64 y.whi] from rfl, show u.val = .agg #[.int .i64 u.day, .int .i64 u.alo, .int .i64 u.ahi, .int .i64 u.wlo, .int .i64 u.whi] from rfl] at NE
        have UD := Lib.hid (show u.day = y.day + 1 by rw [EN.out]; rfl)
        have HU := Lib.hid hu; clear hu DL EN
        have NE' := Lib.hid NE; clear NE
        have MS := Lib.hid (show (wr.cell? ⟨w.heap.size + 1, 0, none⟩).getD undef = .int .i64 y.day by rw [b0]; rfl)
        have AL := Lib.hid (all_succ (P := fun i => least ≤ strLo (dayC C F G k x i)) hal.out (show least ≤ strLo (dayC C F G k x j) by rw [HYY.out, HA.out]; omega))
        go_wp2_with fail
        refine (Calls.grown (SV'.out _)).mono ?_
        rintro e w1 ⟨rfl, z0, rfl⟩
        go_wp2_with fail
        refine (Calls.gw_of (NE'.out _)).mono ?_
        rintro e w1 ⟨rfl, z', rfl⟩
        have q0 := frozen_of_block (((below_gw wr z').block _ l1).trans H1'.out) 0
        have q1 := frozen_of_block (((below_gw wr z').block _ l1).trans H1'.out) 1
        have q2 := frozen_of_block (((below_gw wr z').block _ l1).trans H1'.out) 2
        have q3 := frozen_of_block (((below_gw wr z').block _ l1).trans H1'.out) 3
        have q4 := frozen_of_block (((below_gw wr z').block _ l1).trans H1'.out) 4
        have B1 := Lib.hid (five_set (by simp [Cont.cells]) (((below_gw wr z').block _ l1).trans H1'.out) (.int .i64 u.day) (.int .i64 u.alo) (.int .i64 u.ahi) (.int .i64 u.wlo) (.int .i64 u.whi))
        have G5 := Lib.hid (five_grown (gw wr z') (w.heap.size + 1) (.int .i64 u.day) (.int .i64 u.alo) (.int .i64 u.ahi) (.int .i64 u.wlo) (.int .i64 u.whi))
        have L0 := Lib.hid l0
        go_wp2_with fail
        go_roundw
        case rel => exact ⟨j + 1, by omega, AL, (G5.out.block _ (by rw [gw_size]; omega) (by simp)).trans (((below_gw wr z').block _ L0.out).trans H0.out), by rw [HU.out]; exact B1.out, (HB.out.gw z').grown G5.out (HB.out.gw z').size (fun k e => by cases e; omega)⟩
        case measure =>
          have MZ : (((((((gw wr z').setCell ⟨w.heap.size + 1, 0, none⟩ (.int .i64 u.day)).setCell ⟨w.heap.size + 1, 1, none⟩ (.int .i64 u.alo)).setCell ⟨w.heap.size + 1, 2, none⟩ (.int .i64 u.ahi)).setCell ⟨w.heap.size + 1, 3, none⟩ (.int .i64 u.wlo)).setCell ⟨w.heap.size + 1, 4, none⟩ (.int .i64 u.whi)).cell? ⟨w.heap.size + 1, 0, none⟩).getD undef = .int .i64 u.day := by
            have := cell_of_block B1.out 0 (by simp)
            rw [this]; simp
          rw [MZ, MS.out, UD.out]
          show (tu - (y.day + 1)).toNat < (tu - y.day).toNat
          omega
      · have dl := fun h => hjm (DL.2 h)
        obtain rfl : j = m := by omega
        have ne : (y.day == tu) = true := by have := EY.out; have := MD.out; simp; omega
        have WN := Lib.hid (weak_none (all_succ (P := fun i => least ≤ strLo (dayC C F G k x i)) hal.out (show least ≤ strLo (dayC C F G k x j) by rw [HYY.out, HA.out]; omega)))
        clear DL
        go_wp2_with fail
        refine (Calls.grown (SV'.out _)).mono ?_
        rintro e w1 ⟨rfl, z0, rfl⟩
        go_wp2_with fail
        go_ret2
        exact ⟨by rw [WN.out.1, WN.out.2]; rfl, HB.out.gw z0⟩
end Go.Proofs.Ytljofnmgddfljaa
