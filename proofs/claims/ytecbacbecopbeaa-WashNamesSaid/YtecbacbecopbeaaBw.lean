/- Contracts of Vat, Cooling, Inside (reference), inside (program). No conditions beyond each theorem's own. -/
import Derived.Test.YtecbacbecopbeaaBv
set_option linter.unusedVariables false
set_option linter.unusedSimpArgs false
set_option linter.unusedSectionVars false
set_option linter.constructorNameAsVariable false
namespace Go.Proofs.Ytecbacbecopbeaa
open Go.RowKit

attribute [local go_sem] gw_cell gw_frozen gw_size

theorem vatB_parts (v : Vat) : vatB v = (spanB v.sl v.sh 0 1073741824 && (spanB v.el v.eh 0 1073741824 && (spanB v.pl v.ph 0 1073741824 && (spanB v.gl v.gh 0 1073741824 && (spanB v.ol v.oh 0 1073741824 && (spanB v.tl v.th (-50000) 150000 && inB v.c 1 1099511627776)))))) := by
  have e : List.range 5 = [0, 1, 2, 3, 4] := rfl
  simp [vatB, allB, e, Vat.lo, Vat.hi, Bool.and_assoc]

set_option maxRecDepth 100000 in
set_option maxHeartbeats 4000000 in
theorem rVat_any (v : Vat) (w : World) : Calls Try.prog 21 #[v.val] w fun e w' => e = .returned (.bool (vatB v)) ∧ Below w.heap.size w w' := by
  unfold Vat.val
  obtain ⟨W1, hW1⟩ : ∃ W1, w.alloc (.cells #[.int .i64 v.sl, .int .i64 v.sh, .int .i64 v.el, .int .i64 v.eh, .int .i64 v.pl, .int .i64 v.ph, .int .i64 v.gl, .int .i64 v.gh, .int .i64 v.ol, .int .i64 v.oh, .int .i64 v.tl, .int .i64 v.th, .int .i64 v.c] 38) = W1 := ⟨_, rfl⟩
  have hBc : Below w.heap.size w W1 := by rw [← hW1]; exact below_alloc _ _
  have zc0 : W1.heap[w.heap.size]? = some (.cells #[.int .i64 v.sl, .int .i64 v.sh, .int .i64 v.el, .int .i64 v.eh, .int .i64 v.pl, .int .i64 v.ph, .int .i64 v.gl, .int .i64 v.gh, .int .i64 v.ol, .int .i64 v.oh, .int .i64 v.tl, .int .i64 v.th, .int .i64 v.c] 38 (0, 0)) := by rw [← hW1]; exact alloc_at rfl
  have c00 : W1.cell? ⟨w.heap.size, 0, none⟩ = some (.int .i64 v.sl) := cell_of_block zc0 0 (by simp)
  have c01 : W1.cell? ⟨w.heap.size, 1, none⟩ = some (.int .i64 v.sh) := cell_of_block zc0 1 (by simp)
  have c02 : W1.cell? ⟨w.heap.size, 2, none⟩ = some (.int .i64 v.el) := cell_of_block zc0 2 (by simp)
  have c03 : W1.cell? ⟨w.heap.size, 3, none⟩ = some (.int .i64 v.eh) := cell_of_block zc0 3 (by simp)
  have c04 : W1.cell? ⟨w.heap.size, 4, none⟩ = some (.int .i64 v.pl) := cell_of_block zc0 4 (by simp)
  have c05 : W1.cell? ⟨w.heap.size, 5, none⟩ = some (.int .i64 v.ph) := cell_of_block zc0 5 (by simp)
  have c06 : W1.cell? ⟨w.heap.size, 6, none⟩ = some (.int .i64 v.gl) := cell_of_block zc0 6 (by simp)
  have c07 : W1.cell? ⟨w.heap.size, 7, none⟩ = some (.int .i64 v.gh) := cell_of_block zc0 7 (by simp)
  have c08 : W1.cell? ⟨w.heap.size, 8, none⟩ = some (.int .i64 v.ol) := cell_of_block zc0 8 (by simp)
  have c09 : W1.cell? ⟨w.heap.size, 9, none⟩ = some (.int .i64 v.oh) := cell_of_block zc0 9 (by simp)
  have c010 : W1.cell? ⟨w.heap.size, 10, none⟩ = some (.int .i64 v.tl) := cell_of_block zc0 10 (by simp)
  have c011 : W1.cell? ⟨w.heap.size, 11, none⟩ = some (.int .i64 v.th) := cell_of_block zc0 11 (by simp)
  have c012 : W1.cell? ⟨w.heap.size, 12, none⟩ = some (.int .i64 v.c) := cell_of_block zc0 12 (by simp)
  have lc0 := (Array.getElem?_eq_some_iff.1 zc0).1
  have Zc0 := Lib.hid zc0
  clear zc0
  have HBc := Lib.hid hBc; clear hBc
  have HWc := Lib.hid hW1; clear hW1
  cases t0 : spanB v.sl v.sh 0 1073741824 with
  | false =>
    have hb : vatB v = false := by rw [vatB_parts, t0]; rfl
    rw [hb]; clear hb
    have T0 := Lib.hid t0; clear t0
    go_enter Try.func21, Try.ntmps21
    go_wp2_with fail
    rw [HWc.out]
    go_wp2_with fail
    refine (Calls.grown (rwithin_b v.sl v.sh 0 1073741824 _ T0.out)).mono ?_
    rintro e w1 ⟨rfl, z1, rfl⟩
    go_wp2_with fail
    go_ret
    exact ⟨rfl, HBc.out.gw z1⟩
  | true =>
    cases t1 : spanB v.el v.eh 0 1073741824 with
    | false =>
      have hb : vatB v = false := by rw [vatB_parts, t0, t1]; rfl
      rw [hb]; clear hb
      have T0 := Lib.hid t0; clear t0
      have T1 := Lib.hid t1; clear t1
      go_enter Try.func21, Try.ntmps21
      go_wp2_with fail
      rw [HWc.out]
      go_wp2_with fail
      refine (Calls.grown (rwithin_b v.sl v.sh 0 1073741824 _ T0.out)).mono ?_
      rintro e w1 ⟨rfl, z1, rfl⟩
      go_wp2_with fail
      refine (Calls.gw_of (rwithin_b v.el v.eh 0 1073741824 _ T1.out)).mono ?_
      rintro e w1 ⟨rfl, z2, rfl⟩
      go_wp2_with fail
      go_ret
      exact ⟨rfl, HBc.out.gw z2⟩
    | true =>
      cases t2 : spanB v.pl v.ph 0 1073741824 with
      | false =>
        have hb : vatB v = false := by rw [vatB_parts, t0, t1, t2]; rfl
        rw [hb]; clear hb
        have T0 := Lib.hid t0; clear t0
        have T1 := Lib.hid t1; clear t1
        have T2 := Lib.hid t2; clear t2
        go_enter Try.func21, Try.ntmps21
        go_wp2_with fail
        rw [HWc.out]
        go_wp2_with fail
        refine (Calls.grown (rwithin_b v.sl v.sh 0 1073741824 _ T0.out)).mono ?_
        rintro e w1 ⟨rfl, z1, rfl⟩
        go_wp2_with fail
        refine (Calls.gw_of (rwithin_b v.el v.eh 0 1073741824 _ T1.out)).mono ?_
        rintro e w1 ⟨rfl, z2, rfl⟩
        go_wp2_with fail
        refine (Calls.gw_of (rwithin_b v.pl v.ph 0 1073741824 _ T2.out)).mono ?_
        rintro e w1 ⟨rfl, z3, rfl⟩
        go_wp2_with fail
        go_ret
        exact ⟨rfl, HBc.out.gw z3⟩
      | true =>
        cases t3 : spanB v.gl v.gh 0 1073741824 with
        | false =>
          have hb : vatB v = false := by rw [vatB_parts, t0, t1, t2, t3]; rfl
          rw [hb]; clear hb
          have T0 := Lib.hid t0; clear t0
          have T1 := Lib.hid t1; clear t1
          have T2 := Lib.hid t2; clear t2
          have T3 := Lib.hid t3; clear t3
          go_enter Try.func21, Try.ntmps21
          go_wp2_with fail
          rw [HWc.out]
          go_wp2_with fail
          refine (Calls.grown (rwithin_b v.sl v.sh 0 1073741824 _ T0.out)).mono ?_
          rintro e w1 ⟨rfl, z1, rfl⟩
          go_wp2_with fail
          refine (Calls.gw_of (rwithin_b v.el v.eh 0 1073741824 _ T1.out)).mono ?_
          rintro e w1 ⟨rfl, z2, rfl⟩
          go_wp2_with fail
          refine (Calls.gw_of (rwithin_b v.pl v.ph 0 1073741824 _ T2.out)).mono ?_
          rintro e w1 ⟨rfl, z3, rfl⟩
          go_wp2_with fail
          refine (Calls.gw_of (rwithin_b v.gl v.gh 0 1073741824 _ T3.out)).mono ?_
          rintro e w1 ⟨rfl, z4, rfl⟩
          go_wp2_with fail
          go_ret
          exact ⟨rfl, HBc.out.gw z4⟩
        | true =>
          cases t4 : spanB v.ol v.oh 0 1073741824 with
          | false =>
            have hb : vatB v = false := by rw [vatB_parts, t0, t1, t2, t3, t4]; rfl
            rw [hb]; clear hb
            have T0 := Lib.hid t0; clear t0
            have T1 := Lib.hid t1; clear t1
            have T2 := Lib.hid t2; clear t2
            have T3 := Lib.hid t3; clear t3
            have T4 := Lib.hid t4; clear t4
            go_enter Try.func21, Try.ntmps21
            go_wp2_with fail
            rw [HWc.out]
            go_wp2_with fail
            refine (Calls.grown (rwithin_b v.sl v.sh 0 1073741824 _ T0.out)).mono ?_
            rintro e w1 ⟨rfl, z1, rfl⟩
            go_wp2_with fail
            refine (Calls.gw_of (rwithin_b v.el v.eh 0 1073741824 _ T1.out)).mono ?_
            rintro e w1 ⟨rfl, z2, rfl⟩
            go_wp2_with fail
            refine (Calls.gw_of (rwithin_b v.pl v.ph 0 1073741824 _ T2.out)).mono ?_
            rintro e w1 ⟨rfl, z3, rfl⟩
            go_wp2_with fail
            refine (Calls.gw_of (rwithin_b v.gl v.gh 0 1073741824 _ T3.out)).mono ?_
            rintro e w1 ⟨rfl, z4, rfl⟩
            go_wp2_with fail
            refine (Calls.gw_of (rwithin_b v.ol v.oh 0 1073741824 _ T4.out)).mono ?_
            rintro e w1 ⟨rfl, z5, rfl⟩
            go_wp2_with fail
            go_ret
            exact ⟨rfl, HBc.out.gw z5⟩
          | true =>
            cases t5 : spanB v.tl v.th (-50000) 150000 with
            | false =>
              have hb : vatB v = false := by rw [vatB_parts, t0, t1, t2, t3, t4, t5]; rfl
              rw [hb]; clear hb
              have T0 := Lib.hid t0; clear t0
              have T1 := Lib.hid t1; clear t1
              have T2 := Lib.hid t2; clear t2
              have T3 := Lib.hid t3; clear t3
              have T4 := Lib.hid t4; clear t4
              have T5 := Lib.hid t5; clear t5
              go_enter Try.func21, Try.ntmps21
              go_wp2_with fail
              rw [HWc.out]
              go_wp2_with fail
              refine (Calls.grown (rwithin_b v.sl v.sh 0 1073741824 _ T0.out)).mono ?_
              rintro e w1 ⟨rfl, z1, rfl⟩
              go_wp2_with fail
              refine (Calls.gw_of (rwithin_b v.el v.eh 0 1073741824 _ T1.out)).mono ?_
              rintro e w1 ⟨rfl, z2, rfl⟩
              go_wp2_with fail
              refine (Calls.gw_of (rwithin_b v.pl v.ph 0 1073741824 _ T2.out)).mono ?_
              rintro e w1 ⟨rfl, z3, rfl⟩
              go_wp2_with fail
              refine (Calls.gw_of (rwithin_b v.gl v.gh 0 1073741824 _ T3.out)).mono ?_
              rintro e w1 ⟨rfl, z4, rfl⟩
              go_wp2_with fail
              refine (Calls.gw_of (rwithin_b v.ol v.oh 0 1073741824 _ T4.out)).mono ?_
              rintro e w1 ⟨rfl, z5, rfl⟩
              go_wp2_with fail
              refine (Calls.gw_of (rwithin_b v.tl v.th (-50000) 150000 _ T5.out)).mono ?_
              rintro e w1 ⟨rfl, z6, rfl⟩
              go_wp2_with fail
              go_ret
              exact ⟨rfl, HBc.out.gw z6⟩
            | true =>
              cases t6 : inB v.c 1 1099511627776 with
              | false =>
                have hb : vatB v = false := by rw [vatB_parts, t0, t1, t2, t3, t4, t5, t6]; rfl
                rw [hb]; clear hb
                have T0 := Lib.hid t0; clear t0
                have T1 := Lib.hid t1; clear t1
                have T2 := Lib.hid t2; clear t2
                have T3 := Lib.hid t3; clear t3
                have T4 := Lib.hid t4; clear t4
                have T5 := Lib.hid t5; clear t5
                have T6 := Lib.hid t6; clear t6
                go_enter Try.func21, Try.ntmps21
                go_wp2_with fail
                rw [HWc.out]
                go_wp2_with fail
                refine (Calls.grown (rwithin_b v.sl v.sh 0 1073741824 _ T0.out)).mono ?_
                rintro e w1 ⟨rfl, z1, rfl⟩
                go_wp2_with fail
                refine (Calls.gw_of (rwithin_b v.el v.eh 0 1073741824 _ T1.out)).mono ?_
                rintro e w1 ⟨rfl, z2, rfl⟩
                go_wp2_with fail
                refine (Calls.gw_of (rwithin_b v.pl v.ph 0 1073741824 _ T2.out)).mono ?_
                rintro e w1 ⟨rfl, z3, rfl⟩
                go_wp2_with fail
                refine (Calls.gw_of (rwithin_b v.gl v.gh 0 1073741824 _ T3.out)).mono ?_
                rintro e w1 ⟨rfl, z4, rfl⟩
                go_wp2_with fail
                refine (Calls.gw_of (rwithin_b v.ol v.oh 0 1073741824 _ T4.out)).mono ?_
                rintro e w1 ⟨rfl, z5, rfl⟩
                go_wp2_with fail
                refine (Calls.gw_of (rwithin_b v.tl v.th (-50000) 150000 _ T5.out)).mono ?_
                rintro e w1 ⟨rfl, z6, rfl⟩
                go_wp2_with fail
                refine (rin_b v.c 1 1099511627776 _ T6.out).mono ?_
                rintro e w1 ⟨rfl, rfl⟩
                go_wp2_with fail
                go_ret
                exact ⟨rfl, HBc.out.gw z6⟩
              | true =>
                have hb : vatB v = true := by rw [vatB_parts, t0, t1, t2, t3, t4, t5, t6]; rfl
                rw [hb]; clear hb
                have T0 := Lib.hid t0; clear t0
                have T1 := Lib.hid t1; clear t1
                have T2 := Lib.hid t2; clear t2
                have T3 := Lib.hid t3; clear t3
                have T4 := Lib.hid t4; clear t4
                have T5 := Lib.hid t5; clear t5
                have T6 := Lib.hid t6; clear t6
                go_enter Try.func21, Try.ntmps21
                go_wp2_with fail
                rw [HWc.out]
                go_wp2_with fail
                refine (Calls.grown (rwithin_b v.sl v.sh 0 1073741824 _ T0.out)).mono ?_
                rintro e w1 ⟨rfl, z1, rfl⟩
                go_wp2_with fail
                refine (Calls.gw_of (rwithin_b v.el v.eh 0 1073741824 _ T1.out)).mono ?_
                rintro e w1 ⟨rfl, z2, rfl⟩
                go_wp2_with fail
                refine (Calls.gw_of (rwithin_b v.pl v.ph 0 1073741824 _ T2.out)).mono ?_
                rintro e w1 ⟨rfl, z3, rfl⟩
                go_wp2_with fail
                refine (Calls.gw_of (rwithin_b v.gl v.gh 0 1073741824 _ T3.out)).mono ?_
                rintro e w1 ⟨rfl, z4, rfl⟩
                go_wp2_with fail
                refine (Calls.gw_of (rwithin_b v.ol v.oh 0 1073741824 _ T4.out)).mono ?_
                rintro e w1 ⟨rfl, z5, rfl⟩
                go_wp2_with fail
                refine (Calls.gw_of (rwithin_b v.tl v.th (-50000) 150000 _ T5.out)).mono ?_
                rintro e w1 ⟨rfl, z6, rfl⟩
                go_wp2_with fail
                refine (rin_b v.c 1 1099511627776 _ T6.out).mono ?_
                rintro e w1 ⟨rfl, rfl⟩
                go_wp2_with fail
                go_ret
                exact ⟨rfl, HBc.out.gw z6⟩
theorem rVat_b {b : Bool} (v : Vat) (w : World) (h : vatB v = b) : Calls Try.prog 21 #[v.val] w fun e w' => e = .returned (.bool b) ∧ Below w.heap.size w w' := h ▸ rVat_any v w

set_option maxHeartbeats 1000000 in
theorem rcool_any (lo hi : Int) (w : World) : Calls Try.prog 68 #[.agg #[.int .i64 lo, .int .i64 hi]] w fun e w' => e = .returned (.bool (spanB lo hi 0 150000)) ∧ Below w.heap.size w w' := by
  cases h : spanB lo hi 0 150000
  all_goals
    have H := Lib.hid h; clear h
    go_enter Try.func68, Try.ntmps68
    go_wp2_with fail
    refine (Calls.grown (rwithin_b _ _ _ _ _ H.out)).mono ?_
    rintro e w1 ⟨rfl, x, rfl⟩
    go_wp2_with fail
    go_ret
    exact ⟨rfl, RowKit.Below.gw (below_alloc _ _) x⟩

/-- a span is within another one -/
def insB (lo hi ll lh : Int) : Bool := decide (ll ≤ lo) && decide (hi ≤ lh)
set_option maxHeartbeats 1000000 in
theorem inside_any (lo hi ll lh : Int) (w : World) : Calls Try.prog 72 #[.agg #[.int .i64 lo, .int .i64 hi], .agg #[.int .i64 ll, .int .i64 lh]] w fun e w' => e = .returned (.bool (insB lo hi ll lh)) ∧ Below w.heap.size w w' := by
  unfold insB
  by_cases h1 : ll ≤ lo <;> by_cases h2 : hi ≤ lh
  all_goals go_enter Try.func72, Try.ntmps72
  all_goals go_wp2
  all_goals go_ret
  all_goals exact ⟨by simp [h1, h2], (below_alloc w _).alloc (by simp) _⟩
set_option maxHeartbeats 1000000 in
theorem rinside_any (lo hi ll lh : Int) (w : World) : Calls Try.prog 73 #[.agg #[.int .i64 lo, .int .i64 hi], .agg #[.int .i64 ll, .int .i64 lh]] w fun e w' => e = .returned (.bool (insB lo hi ll lh)) ∧ Below w.heap.size w w' := by
  unfold insB
  by_cases h1 : ll ≤ lo <;> by_cases h2 : hi ≤ lh
  all_goals go_enter Try.func73, Try.ntmps73
  all_goals go_wp2
  all_goals go_ret
  all_goals exact ⟨by simp [h1, h2], (below_alloc w _).alloc (by simp) _⟩
end Go.Proofs.Ytecbacbecopbeaa
