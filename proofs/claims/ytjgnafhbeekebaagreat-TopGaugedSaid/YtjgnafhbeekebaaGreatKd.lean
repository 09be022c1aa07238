/- Contracts of the reference's Content, rows, Climate. Contracts of the reference's floor, Stays. Contracts of the reference's Shares, next. No conditions beyond each theorem's own. -/
import Derived.Test.YtjgnafhbeekebaaGreatKc
set_option linter.unusedVariables false
set_option linter.unusedSimpArgs false
set_option linter.unusedSectionVars false
set_option linter.constructorNameAsVariable false
namespace Go.Proofs.YtjgnafhbeekebaaGreat.L7
open Go.RowKit

attribute [local go_sem] gw_cell gw_frozen gw_size

set_option maxHeartbeats 1000000 in
theorem rContent_any (x : Cont) (w : World) :
    Calls Tryz.prog 7 #[.agg #[.int .i64 x.day, .int .i64 x.alo, .int .i64 x.ahi, .int .i64 x.wlo, .int .i64 x.whi]] w fun e w' => e = .returned (.bool (contB x)) ∧ Below w.heap.size w w' := by
  obtain ⟨W1, hW1⟩ : ∃ W1, w.alloc (.cells #[.int .i64 x.day, .int .i64 x.alo, .int .i64 x.ahi, .int .i64 x.wlo, .int .i64 x.whi] 32) = W1 := ⟨_, rfl⟩
  have hB : Below w.heap.size w W1 := by rw [← hW1]; exact below_alloc _ _
  have hk : W1.heap[w.heap.size]? = some (.cells #[.int .i64 x.day, .int .i64 x.alo, .int .i64 x.ahi, .int .i64 x.wlo, .int .i64 x.whi] 32 (0, 0)) := by rw [← hW1]; exact World.alloc_heap_new w _
  have k0 : W1.cell? ⟨w.heap.size, 0, none⟩ = some (.int .i64 x.day) := cell_of_block hk 0 (by simp)
  have k1 : W1.cell? ⟨w.heap.size, 1, none⟩ = some (.int .i64 x.alo) := cell_of_block hk 1 (by simp)
  have k2 : W1.cell? ⟨w.heap.size, 2, none⟩ = some (.int .i64 x.ahi) := cell_of_block hk 2 (by simp)
  have k3 : W1.cell? ⟨w.heap.size, 3, none⟩ = some (.int .i64 x.wlo) := cell_of_block hk 3 (by simp)
  have k4 : W1.cell? ⟨w.heap.size, 4, none⟩ = some (.int .i64 x.whi) := cell_of_block hk 4 (by simp)
  have lt := (Array.getElem?_eq_some_iff.1 hk).1
  have HB := Lib.hid hB; clear hB hk
  have HW1 := Lib.hid hW1; clear hW1
  cases h1 : inB x.day 0 65536 with
  | false =>
    have RB := Lib.hid (show contB x = false by unfold contB; rw [h1]; rfl)
    have H1 := Lib.hid h1; clear h1
    go_enter Tryz.func7, Tryz.ntmps7
    go_wp2_with fail
    rw [HW1.out]
    go_wp2_with fail
    refine (rin_b _ _ _ _ H1.out).mono ?_
    rintro e w1 ⟨rfl, rfl⟩
    go_wp2_with fail
    go_ret
    exact ⟨by rw [RB.out]; rfl, HB.out⟩
  | true =>
    cases h2 : spanB x.alo x.ahi 0 2147483648 with
    | false =>
      have RB := Lib.hid (show contB x = false by unfold contB; rw [h1, h2]; rfl)
      have H1 := Lib.hid h1; clear h1
      have H2 := Lib.hid h2; clear h2
      go_enter Tryz.func7, Tryz.ntmps7
      go_wp2_with fail
      rw [HW1.out]
      go_wp2_with fail
      refine (rin_b _ _ _ _ H1.out).mono ?_
      rintro e w1 ⟨rfl, rfl⟩
      go_wp2_with fail
      refine (Calls.grown (rwithin_b _ _ _ _ _ H2.out)).mono ?_
      rintro e w1 ⟨rfl, y, rfl⟩
      go_wp2_with fail
      go_ret
      exact ⟨by rw [RB.out]; rfl, HB.out.gw y⟩
    | true =>
      cases h3 : spanB x.wlo x.whi 0 2147483648
      all_goals
        have RB := Lib.hid (show contB x = _ by unfold contB; rw [h1, h2, h3])
        have H1 := Lib.hid h1; clear h1
        have H2 := Lib.hid h2; clear h2
        have H3 := Lib.hid h3; clear h3
        go_enter Tryz.func7, Tryz.ntmps7
        go_wp2_with fail
        rw [HW1.out]
        go_wp2_with fail
        refine (rin_b _ _ _ _ H1.out).mono ?_
        rintro e w1 ⟨rfl, rfl⟩
        go_wp2_with fail
        refine (Calls.grown (rwithin_b _ _ _ _ _ H2.out)).mono ?_
        rintro e w1 ⟨rfl, y, rfl⟩
        go_wp2_with fail
        refine (Calls.gw_of (rwithin_b _ _ _ _ _ H3.out)).mono ?_
        rintro e w1 ⟨rfl, z, rfl⟩
        go_wp2_with fail
        go_ret
        exact ⟨by rw [RB.out]; rfl, HB.out.gw z⟩

theorem rContent_b {b : Bool} (x : Cont) (w : World) (h : contB x = b) :
    Calls Tryz.prog 7 #[.agg #[.int .i64 x.day, .int .i64 x.alo, .int .i64 x.ahi, .int .i64 x.wlo, .int .i64 x.whi]] w fun e w' => e = .returned (.bool b) ∧ Below w.heap.size w w' := h ▸ rContent_any x w

set_option maxRecDepth 100000 in
set_option maxHeartbeats 4000000 in
theorem rrows_any (a : Option Addr) (n c many wide : Nat) (R : Nat → RowD) (w : World) (hn : n ≤ 9223372036854775807) (hw : wide ≤ 9223372036854775807) (hm : many ≤ 9223372036854775807) (hl : ∀ i, i < n → (R i).n ≤ 9223372036854775807) (hR : RowsAt w a n R) :
    Calls Tryz.prog 23 #[.slice a n c, .int .i64 many, .int .i64 wide] w fun e w' => e = .returned (.bool (allB n (fun i => rowB wide (R i)) && decide (n = many))) ∧ Below w.heap.size w w' := by
  have HR := Lib.hid hR; clear hR
  have HL := Lib.hid hl; clear hl
  go_enter Tryz.func23, Tryz.ntmps23
  go_wp2_with fail
  go_loopw [7] (fun t wr => ∃ k : Nat, k ≤ n ∧ t = .int .i64 k ∧ Hid (∀ i, i < k → rowB wide (R i) = true) ∧ ∃ x, wr = gw w x) (fun t _ => n - (intOf t).toNat)
  case atStart => exact ⟨0, Nat.zero_le _, rfl, Lib.hid (fun i hi => by omega), ⟨#[], w.drawn⟩, by simp [gw]⟩
  case round =>
    obtain ⟨k, hk, rfl, hall, x, rfl⟩ := hrel
    by_cases hlt : k < n
    · rcases HR.out with h0 | ⟨b, off, rfl, lb, hc⟩
      · omega
      obtain ⟨x1, x2⟩ := hc k hlt
      have ll := HL.out k hlt
      have X2 := Lib.hid x2; clear x2 hc
      obtain ⟨r, hr⟩ : ∃ r, R k = r := ⟨_, rfl⟩
      rw [hr] at x1 X2 ll
      have RR := Lib.hid hr; clear hr
      by_cases hw2 : r.n = wide
      · have e1 : ((r.n : Int) != (wide : Int)) = false := by simp; omega
        have E2 := Lib.hid hw2; clear hw2
        go_wp2_with fail
        go_loopw [8] (fun t wr => ∃ s : Nat, s ≤ wide ∧ t = .int .i64 s ∧ Hid (∀ i, i < s → shareB r.A r.B i = true) ∧ ∃ x, wr = gw w x) (fun t _ => wide - (intOf t).toNat)
        case atStart => exact ⟨0, Nat.zero_le _, rfl, Lib.hid (fun i hi => by omega), x, rfl⟩
        case round =>
          obtain ⟨s, hs, rfl, hal, y, rfl⟩ := hrel
          by_cases hls : s < wide
          · have ltn : s < r.n := by have := E2.out; omega
            rcases X2.out with h0 | ⟨rb, ro, ea, rl, rc⟩
            · omega
            rw [ea] at x1
            have EA := Lib.hid ea; clear ea
            obtain ⟨y1, y2⟩ := rc s ltn
            clear rc
            have SW := Lib.hid (rwithin_any (r.A s) (r.B s) 0 100000000 (gw w y))
            cases hp : shareB r.A r.B s with
            | true =>
              have hp' : spanB (r.A s) (r.B s) 0 100000000 = true := hp
              rw [hp'] at SW
              have HP := Lib.hid hp; clear hp hp'
              go_wp2_with fail
              refine (Calls.gw_of SW.out).mono ?_
              rintro e w1 ⟨rfl, z, rfl⟩
              go_wp2_with fail
              go_roundw
              case rel => exact ⟨s + 1, by omega, by go_num, Lib.hid (all_succ (P := fun i => shareB r.A r.B i = true) hal.out HP.out), z, rfl⟩
              case measure => simp [intOf]; omega
            | false =>
              have hp' : spanB (r.A s) (r.B s) 0 100000000 = false := hp
              rw [hp'] at SW
              have HP := Lib.hid hp; clear hp hp'
              go_wp2_with fail
              refine (Calls.gw_of SW.out).mono ?_
              rintro e w1 ⟨rfl, z, rfl⟩
              go_wp2_with fail
              go_ret
              refine ⟨ret_bool ?_, below_gw w z⟩
              rw [allB_f hlt (show rowB wide (R k) = false by rw [RR.out]; unfold rowB; rw [allB_f ltn HP.out]; simp)]
              rfl
          · obtain rfl : s = wide := by omega
            go_wp2_with fail
            go_roundw
            case rel => exact ⟨k + 1, by omega, by go_num, Lib.hid (all_succ (P := fun i => rowB s (R i) = true) hall.out (by show rowB s (R k) = true; rw [RR.out]; unfold rowB; rw [E2.out, allB_t.2 hal.out]; simp)), y, rfl⟩
            case measure => simp [intOf]; omega
      · have e1 : ((r.n : Int) != (wide : Int)) = true := by simp; omega
        have E2 := Lib.hid hw2; clear hw2
        go_wp2_with fail
        go_ret
        refine ⟨ret_bool ?_, below_gw w x⟩
        rw [allB_f hlt (show rowB wide (R k) = false by rw [RR.out]; unfold rowB; rw [decide_eq_false E2.out]; simp)]
        rfl
    · obtain rfl : n = k := by omega
      have AL := Lib.hid (allB_t.2 hall.out)
      by_cases hnm : n = many
      · have e1 : ((n : Int) == (many : Int)) = true := by simp; omega
        have E2 := Lib.hid (decide_eq_true hnm); clear hnm
        go_wp2_with fail
        go_ret
        exact ⟨ret_bool (by rw [AL.out, E2.out]; rfl), below_gw w x⟩
      · have e1 : ((n : Int) == (many : Int)) = false := by simp; omega
        have E2 := Lib.hid (decide_eq_false hnm); clear hnm
        go_wp2_with fail
        go_ret
        exact ⟨ret_bool (by rw [AL.out, E2.out]; rfl), below_gw w x⟩
theorem rrows_b {b : Bool} (a : Option Addr) (n c many wide : Nat) (R : Nat → RowD) (w : World) (hn : n ≤ 9223372036854775807) (hw : wide ≤ 9223372036854775807) (hm : many ≤ 9223372036854775807) (hl : ∀ i, i < n → (R i).n ≤ 9223372036854775807) (hR : RowsAt w a n R)
    (h : (allB n (fun i => rowB wide (R i)) && decide (n = many)) = b) :
    Calls Tryz.prog 23 #[.slice a n c, .int .i64 many, .int .i64 wide] w fun e w' => e = .returned (.bool b) ∧ Below w.heap.size w w' := h ▸ rrows_any a n c many wide R w hn hw hm hl hR

set_option maxRecDepth 100000 in
set_option maxHeartbeats 4000000 in
theorem rClimate_any (C : Clim) (w : World) (hC : C.In w) (hf : C.Fits) :
    Calls Tryz.prog 6 #[.agg #[.int .i64 C.days, .slice C.aA C.nA C.cA, .slice C.aW C.nW C.cW]] w fun e w' => e = .returned (.bool (climB C)) ∧ Below w.heap.size w w' := by
  obtain ⟨W1, hW1⟩ : ∃ W1, w.alloc (.cells #[.int .i64 C.days, .slice C.aA C.nA C.cA, .slice C.aW C.nW C.cW] 30) = W1 := ⟨_, rfl⟩
  have hBc : Below w.heap.size w W1 := by rw [← hW1]; exact below_alloc _ _
  have zc0 : W1.heap[w.heap.size]? = some (.cells #[.int .i64 C.days, .slice C.aA C.nA C.cA, .slice C.aW C.nW C.cW] 30 (0, 0)) := by rw [← hW1]; exact alloc_at rfl
  have c00 : W1.cell? ⟨w.heap.size, 0, none⟩ = some (.int .i64 C.days) := cell_of_block zc0 0 (by simp)
  have c01 : W1.cell? ⟨w.heap.size, 1, none⟩ = some (.slice C.aA C.nA C.cA) := cell_of_block zc0 1 (by simp)
  have c02 : W1.cell? ⟨w.heap.size, 2, none⟩ = some (.slice C.aW C.nW C.cW) := cell_of_block zc0 2 (by simp)
  have lc0 := (Array.getElem?_eq_some_iff.1 zc0).1
  clear zc0
  have HBc := Lib.hid hBc; clear hBc
  have HWc := Lib.hid hW1; clear hW1
  have HC := Lib.hid (hC.below HBc.out); clear hC
  have na := hf.na
  have nw := hf.nw
  cases h1 : inB C.days 1 366 with
  | false =>
    have RB := Lib.hid (show climB C = false by simp [climB, climH, h1])
    have H1 := Lib.hid h1; clear h1
    go_enter Tryz.func6, Tryz.ntmps6
    go_wp2_with fail
    rw [HWc.out]
    go_wp2_with fail
    refine (rin_b _ _ _ _ H1.out).mono ?_
    rintro e w1 ⟨rfl, rfl⟩
    go_wp2_with fail
    go_ret
    exact ⟨by rw [RB.out]; rfl, HBc.out⟩
  | true =>
    cases h2 : inB C.nA 1 8 with
    | false =>
      have RB := Lib.hid (show climB C = false by simp [climB, climH, h1, h2])
      have H1 := Lib.hid h1; clear h1
      have H2 := Lib.hid h2; clear h2
      go_enter Tryz.func6, Tryz.ntmps6
      go_wp2_with fail
      rw [HWc.out]
      go_wp2_with fail
      refine (rin_b _ _ _ _ H1.out).mono ?_
      rintro e w1 ⟨rfl, rfl⟩
      go_wp2_with fail
      refine (rin_b _ _ _ _ H2.out).mono ?_
      rintro e w1 ⟨rfl, rfl⟩
      go_wp2_with fail
      go_ret
      exact ⟨by rw [RB.out]; rfl, HBc.out⟩
    | true =>
      have r2 := inB_t.1 h2
      obtain ⟨b, off, ea, lb, x0⟩ := HC.out.ra.first (by omega)
      have l0 := hf.la 0 (by omega)
      rw [ea] at c01
      have EA := Lib.hid ea; clear ea
      have HF := Lib.hid hf
      cases h3 : inB (C.RA 0).n 1 12 with
      | false =>
        have RB := Lib.hid (show climB C = false by simp [climB, climH, h1, h2, h3])
        have H1 := Lib.hid h1; clear h1
        have H2 := Lib.hid h2; clear h2
        have H3 := Lib.hid h3; clear h3
        go_enter Tryz.func6, Tryz.ntmps6
        go_wp2_with fail
        rw [HWc.out]
        go_wp2_with fail
        refine (rin_b _ _ _ _ H1.out).mono ?_
        rintro e w1 ⟨rfl, rfl⟩
        go_wp2_with fail
        refine (rin_b _ _ _ _ H2.out).mono ?_
        rintro e w1 ⟨rfl, rfl⟩
        go_wp2_with fail
        refine (rin_b _ _ _ _ H3.out).mono ?_
        rintro e w1 ⟨rfl, rfl⟩
        go_wp2_with fail
        go_ret
        exact ⟨by rw [RB.out]; rfl, HBc.out⟩
      | true =>
        have r3 := inB_t.1 h3
        cases h4 : allB C.nA (fun i => rowB (C.RA 0).n (C.RA i)) with
        | false =>
          have RB := Lib.hid (show climB C = false by simp [climB, climH, h1, h2, h3, h4])
          have H1 := Lib.hid h1; clear h1
          have H2 := Lib.hid h2; clear h2
          have H3 := Lib.hid h3; clear h3
          have H4 := Lib.hid h4; clear h4
          go_enter Tryz.func6, Tryz.ntmps6
          go_wp2_with fail
          rw [HWc.out]
          go_wp2_with fail
          refine (rin_b _ _ _ _ H1.out).mono ?_
          rintro e w1 ⟨rfl, rfl⟩
          go_wp2_with fail
          refine (rin_b _ _ _ _ H2.out).mono ?_
          rintro e w1 ⟨rfl, rfl⟩
          go_wp2_with fail
          refine (rin_b _ _ _ _ H3.out).mono ?_
          rintro e w1 ⟨rfl, rfl⟩
          go_wp2_with fail
          refine (Calls.grown (rrows_b (b := false) (some ⟨b, off, none⟩) _ _ _ _ C.RA _ na (by omega) (by omega) HF.out.la (EA.out ▸ HC.out.ra.below (Below.refl _ W1)) (by rw [H4.out]; simp))).mono ?_
          rintro e w1 ⟨rfl, z3, rfl⟩
          go_wp2_with fail
          go_ret
          exact ⟨by rw [RB.out]; rfl, HBc.out.gw z3⟩
        | true =>
          cases h5 : (allB C.nW (fun i => rowB (C.RA 0).n (C.RW i)) && decide (C.nW = C.nA)) with
          | false =>
            have RB := Lib.hid (show climB C = false by rw [← h5]; simp only [climB, climH, h1, h2, h3, h4, Bool.true_and, Bool.and_true]; exact Bool.and_comm _ _)
            have H1 := Lib.hid h1; clear h1
            have H2 := Lib.hid h2; clear h2
            have H3 := Lib.hid h3; clear h3
            have H4 := Lib.hid h4; clear h4
            have H5 := Lib.hid h5; clear h5
            go_enter Tryz.func6, Tryz.ntmps6
            go_wp2_with fail
            rw [HWc.out]
            go_wp2_with fail
            refine (rin_b _ _ _ _ H1.out).mono ?_
            rintro e w1 ⟨rfl, rfl⟩
            go_wp2_with fail
            refine (rin_b _ _ _ _ H2.out).mono ?_
            rintro e w1 ⟨rfl, rfl⟩
            go_wp2_with fail
            refine (rin_b _ _ _ _ H3.out).mono ?_
            rintro e w1 ⟨rfl, rfl⟩
            go_wp2_with fail
            refine (Calls.grown (rrows_b (b := true) (some ⟨b, off, none⟩) _ _ _ _ C.RA _ na (by omega) (by omega) HF.out.la (EA.out ▸ HC.out.ra.below (Below.refl _ W1)) (by rw [H4.out]; simp))).mono ?_
            rintro e w1 ⟨rfl, z3, rfl⟩
            go_wp2_with fail
            refine (Calls.gw_of (rrows_b _ _ _ _ _ C.RW _ nw (by omega) (by omega) HF.out.lw (HC.out.rw.below (below_gw W1 z3)) H5.out)).mono ?_
            rintro e w1 ⟨rfl, z4, rfl⟩
            go_wp2_with fail
            go_ret
            exact ⟨by rw [RB.out]; rfl, HBc.out.gw z4⟩
          | true =>
            have RB := Lib.hid (show climB C = true by rw [← h5]; simp only [climB, climH, h1, h2, h3, h4, Bool.true_and, Bool.and_true]; exact Bool.and_comm _ _)
            have H1 := Lib.hid h1; clear h1
            have H2 := Lib.hid h2; clear h2
            have H3 := Lib.hid h3; clear h3
            have H4 := Lib.hid h4; clear h4
            have H5 := Lib.hid h5; clear h5
            go_enter Tryz.func6, Tryz.ntmps6
            go_wp2_with fail
            rw [HWc.out]
            go_wp2_with fail
            refine (rin_b _ _ _ _ H1.out).mono ?_
            rintro e w1 ⟨rfl, rfl⟩
            go_wp2_with fail
            refine (rin_b _ _ _ _ H2.out).mono ?_
            rintro e w1 ⟨rfl, rfl⟩
            go_wp2_with fail
            refine (rin_b _ _ _ _ H3.out).mono ?_
            rintro e w1 ⟨rfl, rfl⟩
            go_wp2_with fail
            refine (Calls.grown (rrows_b (b := true) (some ⟨b, off, none⟩) _ _ _ _ C.RA _ na (by omega) (by omega) HF.out.la (EA.out ▸ HC.out.ra.below (Below.refl _ W1)) (by rw [H4.out]; simp))).mono ?_
            rintro e w1 ⟨rfl, z3, rfl⟩
            go_wp2_with fail
            refine (Calls.gw_of (rrows_b _ _ _ _ _ C.RW _ nw (by omega) (by omega) HF.out.lw (HC.out.rw.below (below_gw W1 z3)) H5.out)).mono ?_
            rintro e w1 ⟨rfl, z4, rfl⟩
            go_wp2_with fail
            go_ret
            exact ⟨by rw [RB.out]; rfl, HBc.out.gw z4⟩
theorem rClimate_b {b : Bool} (C : Clim) (w : World) (hC : C.In w) (hf : C.Fits) (h : climB C = b) :
    Calls Tryz.prog 6 #[.agg #[.int .i64 C.days, .slice C.aA C.nA C.cA, .slice C.aW C.nW C.cW]] w fun e w' => e = .returned (.bool b) ∧ Below w.heap.size w w' := h ▸ rClimate_any C w hC hf
end Go.Proofs.YtjgnafhbeekebaaGreat.L7

namespace Go.Proofs.YtjgnafhbeekebaaGreat.L7
open Go.RowKit

attribute [local go_sem] gw_cell gw_frozen gw_size

set_option maxRecDepth 100000 in
set_option maxHeartbeats 4000000 in
theorem rStays_any (C : Clim) (aS : Option Addr) (n c : Nat) (F G : Nat → Int) (w : World) (hf : C.Fits) (hn : n ≤ 9223372036854775807) (hS : SpansAt w aS n F G) :
    Calls Tryz.prog 8 #[.agg #[.int .i64 C.days, .slice C.aA C.nA C.cA, .slice C.aW C.nW C.cW], .slice aS n c] w fun e w' => e = .returned (.bool (staysB C.nA n F G)) ∧ Below w.heap.size w w' := by
  have na := hf.na
  clear hf
  obtain ⟨W1, hW1⟩ : ∃ W1, w.alloc (.cells #[.int .i64 C.days, .slice C.aA C.nA C.cA, .slice C.aW C.nW C.cW] 30) = W1 := ⟨_, rfl⟩
  have hBc : Below w.heap.size w W1 := by rw [← hW1]; exact below_alloc _ _
  have zc0 : W1.heap[w.heap.size]? = some (.cells #[.int .i64 C.days, .slice C.aA C.nA C.cA, .slice C.aW C.nW C.cW] 30 (0, 0)) := by rw [← hW1]; exact alloc_at rfl
  have c00 : W1.cell? ⟨w.heap.size, 0, none⟩ = some (.int .i64 C.days) := cell_of_block zc0 0 (by simp)
  have c01 : W1.cell? ⟨w.heap.size, 1, none⟩ = some (.slice C.aA C.nA C.cA) := cell_of_block zc0 1 (by simp)
  have c02 : W1.cell? ⟨w.heap.size, 2, none⟩ = some (.slice C.aW C.nW C.cW) := cell_of_block zc0 2 (by simp)
  have lc0 := (Array.getElem?_eq_some_iff.1 zc0).1
  clear zc0
  have HBc := Lib.hid hBc; clear hBc
  have HWc := Lib.hid hW1; clear hW1
  have HS := Lib.hid (hS.below HBc.out); clear hS
  cases g : inB n 1 64 with
  | false =>
    have RB := Lib.hid (show staysB C.nA n F G = false by unfold staysB; rw [g]; rfl)
    have G0 := Lib.hid g; clear g
    go_enter Tryz.func8, Tryz.ntmps8
    go_wp2_with fail
    rw [HWc.out]
    go_wp2_with fail
    refine (rin_b _ _ _ _ G0.out).mono ?_
    rintro e w1 ⟨rfl, rfl⟩
    go_wp2_with fail
    go_ret
    exact ⟨by rw [RB.out]; rfl, HBc.out⟩
  | true =>
    have bn := inB_t.1 g
    have G0 := Lib.hid g; clear g
    go_enter Tryz.func8, Tryz.ntmps8
    go_wp2_with fail
    rw [HWc.out]
    go_wp2_with fail
    refine (rin_b _ _ _ _ G0.out).mono ?_
    rintro e w1 ⟨rfl, rfl⟩
    go_wp2_with fail
    go_loopw [5] (fun t wr => ∃ k : Nat, k ≤ n ∧ t = .int .i64 k ∧ Hid (∀ i, i < k → stayB C.nA F G i = true) ∧ ∃ x, wr = gw W1 x) (fun t _ => n - (intOf t).toNat)
    case atStart => exact ⟨0, Nat.zero_le _, rfl, Lib.hid (fun i hi => by omega), ⟨#[], W1.drawn⟩, by simp [gw]⟩
    case round =>
      obtain ⟨k, hk, rfl, hall, x, rfl⟩ := hrel
      by_cases hlt : k < n
      · rcases HS.out with h0 | ⟨b, off, rfl, lb, hc⟩
        · omega
        obtain ⟨x1, x2⟩ := hc k hlt
        have xp := fun h : 0 < k => (hc (k - 1) (by omega)).1
        clear hc
        cases g1 : inB (F k) 0 65536 with
        | false =>
          have RB := Lib.hid (show staysB C.nA n F G = false by unfold staysB; rw [allB_f hlt (show stayB C.nA F G k = false by unfold stayB; rw [g1]; rfl)]; simp)
          have G1 := Lib.hid g1; clear g1 xp
          go_wp2_with fail
          refine wp_region_gw2 (by kernel_rfl) (by kernel_rfl) ?_
          repeat (go_big_quiet_step ((go_at_call 22; first | exact Calls.gw_of_same (rin_b _ _ _ _ G1.out) | exact Calls.gw_of_same (rin_b _ _ _ _ G2.out))))
          refine wpQuiet_nil ?_
          rintro _ ⟨z, rfl⟩
          go_wp2_with fail
          go_ret
          exact ⟨by rw [RB.out]; rfl, HBc.out.gw z⟩
        | true =>
          cases g2 : inB (G k) 0 (C.nA - 1) with
          | false =>
            have RB := Lib.hid (show staysB C.nA n F G = false by unfold staysB; rw [allB_f hlt (show stayB C.nA F G k = false by unfold stayB; rw [g1, g2]; rfl)]; simp)
            have G1 := Lib.hid g1; clear g1 xp
            have G2 := Lib.hid g2; clear g2
            go_wp2_with fail
            refine wp_region_gw2 (by kernel_rfl) (by kernel_rfl) ?_
            repeat (go_big_quiet_step ((go_at_call 22; first | exact Calls.gw_of_same (rin_b _ _ _ _ G1.out) | exact Calls.gw_of_same (rin_b _ _ _ _ G2.out))))
            refine wpQuiet_nil ?_
            rintro _ ⟨z, rfl⟩
            go_wp2_with fail
            go_ret
            exact ⟨by rw [RB.out]; rfl, HBc.out.gw z⟩
          | true =>
            by_cases hk0 : k = 0
            · have ST := Lib.hid (show stayB C.nA F G k = true by unfold stayB; rw [g1, g2, decide_eq_true hk0]; rfl)
              have e1 : decide (0 < k) = false := by simp; omega
              have HK0 := Lib.hid hk0; clear hk0
              have G1 := Lib.hid g1; clear g1 xp
              have G2 := Lib.hid g2; clear g2
              go_wp2_with fail
              refine wp_region_gw2 (by kernel_rfl) (by kernel_rfl) ?_
              repeat (go_big_quiet_step ((go_at_call 22; first | exact Calls.gw_of_same (rin_b _ _ _ _ G1.out) | exact Calls.gw_of_same (rin_b _ _ _ _ G2.out))))
              refine wpQuiet_nil ?_
              rintro _ ⟨z, rfl⟩
              go_wp2_with fail
              go_roundw
              case rel => exact ⟨k + 1, by omega, by go_num, Lib.hid (all_succ (P := fun i => stayB C.nA F G i = true) hall.out ST.out), z, rfl⟩
              case measure => simp [intOf]; omega
            · have k1 : 0 < k := by omega
              have e1 : decide ((0 : Int) < (k : Int)) = true := by simp; omega
              obtain ⟨j, rfl⟩ : ∃ j : Nat, k = j + 1 := ⟨k - 1, by omega⟩
              have xj := xp k1
              rw [Nat.add_sub_cancel] at xj
              by_cases g3 : F j < F (j + 1)
              · have ST := Lib.hid (show stayB C.nA F G (j + 1) = true by unfold stayB; rw [g1, g2, Nat.add_sub_cancel, decide_eq_true g3]; simp)
                have e3 : decide (F (j + 1) ≤ F j) = false := by simp; omega
                have G1 := Lib.hid g1; clear g1 xp
                have G2 := Lib.hid g2; clear g2
                go_wp2_with fail
                refine wp_region_gw2 (by kernel_rfl) (by kernel_rfl) ?_
                repeat (go_big_quiet_step ((go_at_call 22; first | exact Calls.gw_of_same (rin_b _ _ _ _ G1.out) | exact Calls.gw_of_same (rin_b _ _ _ _ G2.out))))
                refine wpQuiet_nil ?_
                rintro _ ⟨z, rfl⟩
                go_wp2_with fail
                go_roundw
                case rel => exact ⟨j + 1 + 1, by omega, by go_num, Lib.hid (all_succ (P := fun i => stayB C.nA F G i = true) hall.out ST.out), z, rfl⟩
                case measure => simp [intOf]; omega
              · have RB := Lib.hid (show staysB C.nA n F G = false by unfold staysB; rw [allB_f hlt (show stayB C.nA F G (j + 1) = false by unfold stayB; rw [g1, g2, Nat.add_sub_cancel, decide_eq_false g3]; simp)]; simp)
                have e3 : decide (F (j + 1) ≤ F j) = true := by simp; omega
                have G1 := Lib.hid g1; clear g1 xp
                have G2 := Lib.hid g2; clear g2
                go_wp2_with fail
                refine wp_region_gw2 (by kernel_rfl) (by kernel_rfl) ?_
                repeat (go_big_quiet_step ((go_at_call 22; first | exact Calls.gw_of_same (rin_b _ _ _ _ G1.out) | exact Calls.gw_of_same (rin_b _ _ _ _ G2.out))))
                refine wpQuiet_nil ?_
                rintro _ ⟨z, rfl⟩
                go_wp2_with fail
                go_ret
                exact ⟨by rw [RB.out]; rfl, HBc.out.gw z⟩
      · obtain rfl : n = k := by omega
        have RB := Lib.hid (show staysB C.nA n F G = true by unfold staysB; rw [allB_t.2 hall.out, G0.out]; rfl)
        go_wp2_with fail
        go_ret
        exact ⟨by rw [RB.out]; rfl, HBc.out.gw x⟩
theorem rStays_b {b : Bool} (C : Clim) (aS : Option Addr) (n c : Nat) (F G : Nat → Int) (w : World) (hf : C.Fits) (hn : n ≤ 9223372036854775807) (hS : SpansAt w aS n F G) (h : staysB C.nA n F G = b) :
    Calls Tryz.prog 8 #[.agg #[.int .i64 C.days, .slice C.aA C.nA C.cA, .slice C.aW C.nW C.cW], .slice aS n c] w fun e w' => e = .returned (.bool b) ∧ Below w.heap.size w w' := h ▸ rStays_any C aS n c F G w hf hn hS
end Go.Proofs.YtjgnafhbeekebaaGreat.L7

namespace Go.Proofs.YtjgnafhbeekebaaGreat.L7
open Go.RowKit

attribute [local go_sem] gw_cell gw_frozen gw_size

set_option maxRecDepth 100000 in
set_option maxHeartbeats 4000000 in
theorem rShares_any (C : Clim) (f : Nat) (day : Int) (w : World) (hC : C.In w) (hB : climB C = true) (hf : f < C.nA) (d0 : 0 ≤ day) (d1 : day ≤ 65536) :
    Calls Tryz.prog 11 #[.agg #[.int .i64 C.days, .slice C.aA C.nA C.cA, .slice C.aW C.nW C.cW], .int .i64 f, .int .i64 day] w fun e w' => e = .returned (.tuple #[.agg #[.int .i64 ((C.RA f).A (seasonOf C day)), .int .i64 ((C.RA f).B (seasonOf C day))], .agg #[.int .i64 ((C.RW f).A (seasonOf C day)), .int .i64 ((C.RW f).B (seasonOf C day))]]) ∧ Below w.heap.size w w' := by
  obtain ⟨⟨e0, e1⟩, ⟨a1, a2⟩, nw, ⟨b1, b2⟩, ra, rw'⟩ := climB_t hB
  clear hB
  obtain ⟨W1, hW1⟩ : ∃ W1, ((w.alloc (.cells #[.int .i64 C.days, .slice C.aA C.nA C.cA, .slice C.aW C.nW C.cW] 30)).alloc (.cells #[.int .i64 0, .int .i64 0] 27)).alloc (.cells #[.int .i64 0, .int .i64 0] 27) = W1 := ⟨_, rfl⟩
  have hBc : Below w.heap.size w W1 := by rw [← hW1]; exact ((below_alloc _ _).alloc (by simp) _).alloc (by simp <;> omega) _
  have zc0 : W1.heap[w.heap.size]? = some (.cells #[.int .i64 C.days, .slice C.aA C.nA C.cA, .slice C.aW C.nW C.cW] 30 (0, 0)) := by rw [← hW1]; exact alloc_keep (alloc_keep (alloc_at rfl))
  have zc1 : W1.heap[w.heap.size + 1]? = some (.cells #[.int .i64 0, .int .i64 0] 27 (0, 0)) := by rw [← hW1]; exact alloc_keep (alloc_at (by simp))
  have zc2 : W1.heap[w.heap.size + 1 + 1]? = some (.cells #[.int .i64 0, .int .i64 0] 27 (0, 0)) := by rw [← hW1]; exact alloc_at (by simp <;> omega)
  have c00 : W1.cell? ⟨w.heap.size, 0, none⟩ = some (.int .i64 C.days) := cell_of_block zc0 0 (by simp)
  have c01 : W1.cell? ⟨w.heap.size, 1, none⟩ = some (.slice C.aA C.nA C.cA) := cell_of_block zc0 1 (by simp)
  have c02 : W1.cell? ⟨w.heap.size, 2, none⟩ = some (.slice C.aW C.nW C.cW) := cell_of_block zc0 2 (by simp)
  have c10 : W1.cell? ⟨w.heap.size + 1, 0, none⟩ = some (.int .i64 0) := cell_of_block zc1 0 (by simp)
  have c11 : W1.cell? ⟨w.heap.size + 1, 1, none⟩ = some (.int .i64 0) := cell_of_block zc1 1 (by simp)
  have c20 : W1.cell? ⟨w.heap.size + 1 + 1, 0, none⟩ = some (.int .i64 0) := cell_of_block zc2 0 (by simp)
  have c21 : W1.cell? ⟨w.heap.size + 1 + 1, 1, none⟩ = some (.int .i64 0) := cell_of_block zc2 1 (by simp)
  have lc0 := (Array.getElem?_eq_some_iff.1 zc0).1
  have lc1 := (Array.getElem?_eq_some_iff.1 zc1).1
  have lc2 := (Array.getElem?_eq_some_iff.1 zc2).1
  have Zc1 := Lib.hid zc1
  have Zc2 := Lib.hid zc2
  clear zc0 zc1 zc2
  have HBc := Lib.hid hBc; clear hBc
  have HWc := Lib.hid hW1; clear hW1
  obtain ⟨bA, oA, eA, lA, cA⟩ := hC.ra.get (by omega)
  obtain ⟨bW, oW, eW, lW, cW⟩ := hC.rw.get (by omega)
  clear hC
  rw [eA] at c01
  rw [eW] at c02
  have SL := seasonOf_lt (C := C) (day := day) (by omega)
  have SE : day / C.days % ((C.RA 0).n : Int) = (seasonOf C day : Nat) := by
    unfold seasonOf
    have a := Int.emod_nonneg (day / C.days) (show ((C.RA 0).n : Int) ≠ 0 by omega)
    omega
  have Q0 : 0 ≤ day / C.days := Int.ediv_nonneg d0 (by omega)
  obtain ⟨s, hs⟩ : ∃ s, seasonOf C day = s := ⟨_, rfl⟩
  rw [hs] at SL SE ⊢
  clear hs
  have z0 := (cA 0 (by omega)).1
  rw [Nat.add_zero] at z0
  obtain ⟨zf, sf⟩ := cA f hf
  obtain ⟨yf, tf⟩ := cW f (by omega)
  have na := (ra f hf).1
  have nb := (rw' f hf).1
  clear cA cW eA eW ra rw'
  rcases sf with h0 | ⟨ba, oa, ea, la, ca⟩
  · omega
  rcases tf with h0 | ⟨bw, ow, ew, lw, cw⟩
  · omega
  rw [ea, na] at zf
  rw [ew, nb] at yf
  obtain ⟨p1, p2⟩ := ca s (by omega)
  obtain ⟨q1, q2⟩ := cw s (by omega)
  have fW : f < C.nW := by omega
  replace z0 := below_cell HBc.out z0
  replace zf := below_cell HBc.out zf
  replace yf := below_cell HBc.out yf
  replace p1 := below_cell HBc.out p1
  replace p2 := below_cell HBc.out p2
  replace q1 := below_cell HBc.out q1
  replace q2 := below_cell HBc.out q2
  have klA := Nat.lt_of_lt_of_le lA HBc.out.size
  have klW := Nat.lt_of_lt_of_le lW HBc.out.size
  have kla := Nat.lt_of_lt_of_le la HBc.out.size
  have klw := Nat.lt_of_lt_of_le lw HBc.out.size
  clear ca cw ea ew na nb nw
  generalize (C.RA f).A s = p at *
  generalize (C.RA f).B s = q at *
  generalize (C.RW f).A s = r at *
  generalize (C.RW f).B s = t at *
  go_enter Tryz.func11, Tryz.ntmps11
  go_wp2_with fail
  rw [HWc.out]
  refine wp_region_gw (by kernel_rfl) (by kernel_rfl) ?_
  repeat (go_big_quiet_step (fail))
  refine wpQuiet_nil ?_
  rintro _ ⟨z, rfl⟩
  go_wp2_with fail
  obtain ⟨V, hV⟩ : ∃ V, gw W1 z = V := ⟨_, rfl⟩
  have BV : Below W1.heap.size W1 V := by rw [← hV]; exact below_gw _ _
  rw [hV]
  clear hV
  have n0 := (BV.block _ lc1).trans Zc1.out
  have n1 := (BV.block _ lc2).trans Zc2.out
  have g0 := cell_of_block n0 0 (by simp)
  have g1 := cell_of_block n0 1 (by simp)
  have g2 := cell_of_block n1 0 (by simp)
  have g3 := cell_of_block n1 1 (by simp)
  have h0 := frozen_of_block n0 0
  have h1 := frozen_of_block n0 1
  have h2 := frozen_of_block n1 0
  have h3 := frozen_of_block n1 1
  have c01' := below_cell BV c01
  have c02' := below_cell BV c02
  have zf' := below_cell BV zf
  have yf' := below_cell BV yf
  have p1' := below_cell BV p1
  have p2' := below_cell BV p2
  have q1' := below_cell BV q1
  have q2' := below_cell BV q2
  have BB := Lib.hid (thru BV HBc.out)
  clear n0 n1 BV c00 c01 c02 c10 c11 c20 c21 zf yf z0 p1 p2 q1 q2 Zc1 Zc2
  have nbA1 : bA ≠ w.heap.size + 1 := by omega
  have mbA1 := nbA1.symm
  have nbA2 : bA ≠ w.heap.size + 1 + 1 := by omega
  have mbA2 := nbA2.symm
  have nbW1 : bW ≠ w.heap.size + 1 := by omega
  have mbW1 := nbW1.symm
  have nbW2 : bW ≠ w.heap.size + 1 + 1 := by omega
  have mbW2 := nbW2.symm
  have nba1 : ba ≠ w.heap.size + 1 := by omega
  have mba1 := nba1.symm
  have nba2 : ba ≠ w.heap.size + 1 + 1 := by omega
  have mba2 := nba2.symm
  have nbw1 : bw ≠ w.heap.size + 1 := by omega
  have mbw1 := nbw1.symm
  have nbw2 : bw ≠ w.heap.size + 1 + 1 := by omega
  have mbw2 := nbw2.symm
  go_region
  all_goals
    go_wp2_with fail
    refine bodyPost_ret (v := .tuple #[.agg #[.int .i64 p, .int .i64 q], .agg #[.int .i64 r, .int .i64 t]]) (by simp [results, Tryz.results11, go_sem, *]) rfl ⟨rfl, ?_⟩
    exact ((((BB.out.setCell (by simp) _).setCell (by simp) _).setCell (by simp <;> omega) _).setCell (by simp <;> omega) _).drew
end Go.Proofs.YtjgnafhbeekebaaGreat.L7
