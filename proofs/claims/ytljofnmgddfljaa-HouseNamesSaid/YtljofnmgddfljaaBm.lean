/- Contracts of the reference's Content, rows, Climate. No conditions beyond each theorem's own. -/
import Derived.Test.YtljofnmgddfljaaBl
set_option linter.unusedVariables false
set_option linter.unusedSimpArgs false
set_option linter.unusedSectionVars false
set_option linter.constructorNameAsVariable false
namespace Go.Proofs.Ytljofnmgddfljaa
open Go.RowKit

attribute [local go_sem] gw_cell gw_frozen gw_size

set_option maxHeartbeats 1000000 in
theorem rContent_any (x : Cont) (w : World) :
    Calls Try.prog 18 #[.agg #[.int .i64 x.day, .int .i64 x.alo, .int .i64 x.ahi, .int .i64 x.wlo, .int .i64 x.whi]] w fun e w' => e = .returned (.bool (contB x)) ∧ Below w.heap.size w w' := by
  obtain ⟨W1, hW1⟩ : ∃ W1, w.alloc (.cells #[.int .i64 x.day, .int .i64 x.alo, .int .i64 x.ahi, .int .i64 x.wlo, .int .i64 x.whi] 28) = W1 := ⟨_, rfl⟩
  have hB : Below w.heap.size w W1 := by rw [← hW1]; exact below_alloc _ _
  have hk : W1.heap[w.heap.size]? = some (.cells #[.int .i64 x.day, .int .i64 x.alo, .int .i64 x.ahi, .int .i64 x.wlo, .int .i64 x.whi] 28 (0, 0)) := by rw [← hW1]; exact World.alloc_heap_new w _
  have k0 : W1.cell? ⟨w.heap.size, 0, none⟩ = some (.int .i64 x.day) := cell_of_block hk 0 (by simp)
  have k1 : W1.cell? ⟨w.heap.size, 1, none⟩ = some (.int .i64 x.alo) := cell_of_block hk 1 (by simp)
  have k2 : W1.cell? ⟨w.heap.size, 2, none⟩ = some (.int .i64 x.ahi) := cell_of_block hk 2 (by simp)
  have k3 : W1.cell? ⟨w.heap.size, 3, none⟩ = some (.int .i64 x.wlo) := cell_of_block hk 3 (by simp)
  have k4 : W1.cell? ⟨w.heap.size, 4, none⟩ = some (.int .i64 x.whi) := cell_of_block hk 4 (by simp)
  have lt := (Array.getElem?_eq_some_iff.1 hk).1
  have HB := Lib.hid hB; clear hB hk
  have HW1 := Lib.hid hW1; clear hW1
  cases h1 : inB x.day 0 65536 with
  | false =>
    have RB := Lib.hid (show contB x = false by unfold contB; rw [h1]; rfl)
    have H1 := Lib.hid h1; clear h1
    go_enter Try.func18, Try.ntmps18
    go_wp2_with fail
    rw [HW1.out]
    go_wp2_with fail
    refine (rin_b _ _ _ _ H1.out).mono ?_
    rintro e w1 ⟨rfl, rfl⟩
    go_wp2_with fail
    go_ret
    exact ⟨by rw [RB.out]; rfl, HB.out⟩
  | true =>
    cases h2 : spanB x.alo x.ahi 0 2147483648 with
    | false =>
      have RB := Lib.hid (show contB x = false by unfold contB; rw [h1, h2]; rfl)
      have H1 := Lib.hid h1; clear h1
      have H2 := Lib.hid h2; clear h2
      go_enter Try.func18, Try.ntmps18
      go_wp2_with fail
      rw [HW1.out]
      go_wp2_with fail
      refine (rin_b _ _ _ _ H1.out).mono ?_
      rintro e w1 ⟨rfl, rfl⟩
      go_wp2_with fail
      refine (Calls.grown (rwithin_b _ _ _ _ _ H2.out)).mono ?_
      rintro e w1 ⟨rfl, y, rfl⟩
      go_wp2_with fail
      go_ret
      exact ⟨by rw [RB.out]; rfl, HB.out.gw y⟩
    | true =>
      cases h3 : spanB x.wlo x.whi 0 2147483648
      all_goals
        have RB := Lib.hid (show contB x = _ by unfold contB; rw [h1, h2, h3])
        have H1 := Lib.hid h1; clear h1
        have H2 := Lib.hid h2; clear h2
        have H3 := Lib.hid h3; clear h3
        go_enter Try.func18, Try.ntmps18
        go_wp2_with fail
        rw [HW1.out]
        go_wp2_with fail
        refine (rin_b _ _ _ _ H1.out).mono ?_
        rintro e w1 ⟨rfl, rfl⟩
        go_wp2_with fail
        refine (Calls.grown (rwithin_b _ _ _ _ _ H2.out)).mono ?_
        rintro e w1 ⟨rfl, y, rfl⟩
        go_wp2_with fail
        refine (Calls.gw_of (rwithin_b _ _ _ _ _ H3.out)).mono ?_
        rintro e w1 ⟨rfl, z, rfl⟩
        go_wp2_with fail
        go_ret
        exact ⟨by rw [RB.out]; rfl, HB.out.gw z⟩

theorem rContent_b {b : Bool} (x : Cont) (w : World) (h : contB x = b) :
    Calls Try.prog 18 #[.agg #[.int .i64 x.day, .int .i64 x.alo, .int .i64 x.ahi, .int .i64 x.wlo, .int .i64 x.whi]] w fun e w' => e = .returned (.bool b) ∧ Below w.heap.size w w' := h ▸ rContent_any x w

set_option maxRecDepth 100000 in
set_option maxHeartbeats 4000000 in
theorem rrows_any (a : Option Addr) (n c many wide : Nat) (R : Nat → RowD) (w : World) (hn : n ≤ 9223372036854775807) (hw : wide ≤ 9223372036854775807) (hm : many ≤ 9223372036854775807) (hl : ∀ i, i < n → (R i).n ≤ 9223372036854775807) (hR : RowsAt w a n R) :
    Calls Try.prog 59 #[.slice a n c, .int .i64 many, .int .i64 wide] w fun e w' => e = .returned (.bool (allB n (fun i => rowB wide (R i)) && decide (n = many))) ∧ Below w.heap.size w w' := by
  have HR := Lib.hid hR; clear hR
  have HL := Lib.hid hl; clear hl
  go_enter Try.func59, Try.ntmps59
  go_wp2_with fail
  go_loopw [7] (fun t wr => ∃ k : Nat, k ≤ n ∧ t = .int .i64 k ∧ Hid (∀ i, i < k → rowB wide (R i) = true) ∧ ∃ x, wr = gw w x) (fun t _ => n - (intOf t).toNat)
  case atStart => exact ⟨0, Nat.zero_le _, rfl, Lib.hid (fun i hi => by omega), ⟨#[], w.drawn⟩, by simp [gw]⟩
  case round =>
    obtain ⟨k, hk, rfl, hall, x, rfl⟩ := hrel
    by_cases hlt : k < n
    · rcases HR.out with h0 | ⟨b, off, rfl, lb, hc⟩
      · omega
      obtain ⟨x1, x2⟩ := hc k hlt
      have ll := HL.out k hlt
      have X2 := Lib.hid x2; clear x2 hc
      obtain ⟨r, hr⟩ : ∃ r, R k = r := ⟨_, rfl⟩
      rw [hr] at x1 X2 ll
      have RR := Lib.hid hr; clear hr
      by_cases hw2 : r.n = wide
      · have e1 : ((r.n : Int) != (wide : Int)) = false := by simp; omega
        have E2 := Lib.hid hw2; clear hw2
        go_wp2_with fail
        go_loopw [8] (fun t wr => ∃ s : Nat, s ≤ wide ∧ t = .int .i64 s ∧ Hid (∀ i, i < s → shareB r.A r.B i = true) ∧ ∃ x, wr = gw w x) (fun t _ => wide - (intOf t).toNat)
        case atStart => exact ⟨0, Nat.zero_le _, rfl, Lib.hid (fun i hi => by omega), x, rfl⟩
        case round =>
          obtain ⟨s, hs, rfl, hal, y, rfl⟩ := hrel
          by_cases hls : s < wide
          · have ltn : s < r.n := by have := E2.out; omega
            rcases X2.out with h0 | ⟨rb, ro, ea, rl, rc⟩
            · omega
            rw [ea] at x1
            have EA := Lib.hid ea; clear ea
            obtain ⟨y1, y2⟩ := rc s ltn
            clear rc
            have SW := Lib.hid (rwithin_any (r.A s) (r.B s) 0 100000000 (gw w y))
            cases hp : shareB r.A r.B s with
            | true =>
              have hp' : spanB (r.A s) (r.B s) 0 100000000 = true := hp
              rw [hp'] at SW
              have HP := Lib.hid hp; clear hp hp'
              go_wp2_with fail
              refine (Calls.gw_of SW.out).mono ?_
              rintro e w1 ⟨rfl, z, rfl⟩
              go_wp2_with fail
              go_roundw
              case rel => exact ⟨s + 1, by omega, by go_num, Lib.hid (all_succ (P := fun i => shareB r.A r.B i = true) hal.out HP.out), z, rfl⟩
              case measure => simp [intOf]; omega
            | false =>
              have hp' : spanB (r.A s) (r.B s) 0 100000000 = false := hp
              rw [hp'] at SW
              have HP := Lib.hid hp; clear hp hp'
              go_wp2_with fail
              refine (Calls.gw_of SW.out).mono ?_
              rintro e w1 ⟨rfl, z, rfl⟩
              go_wp2_with fail
              go_ret
              refine ⟨ret_bool ?_, below_gw w z⟩
              rw [allB_f hlt (show rowB wide (R k) = false by rw [RR.out]; unfold rowB; rw [allB_f ltn HP.out]; simp)]
              rfl
          · obtain rfl : s = wide := by omega
            go_wp2_with fail
            go_roundw
            case rel => exact ⟨k + 1, by omega, by go_num, Lib.hid (all_succ (P := fun i => rowB s (R i) = true) hall.out (by show rowB s (R k) = true; rw [RR.out]; unfold rowB; rw [E2.out, allB_t.2 hal.out]; simp)), y, rfl⟩
            case measure => simp [intOf]; omega
      · have e1 : ((r.n : Int) != (wide : Int)) = true := by simp; omega
        have E2 := Lib.hid hw2; clear hw2
        go_wp2_with fail
        go_ret
        refine ⟨ret_bool ?_, below_gw w x⟩
        rw [allB_f hlt (show rowB wide (R k) = false by rw [RR.out]; unfold rowB; rw [decide_eq_false E2.out]; simp)]
        rfl
    · obtain rfl : n = k := by omega
      have AL := Lib.hid (allB_t.2 hall.out)
      by_cases hnm : n = many
      · have e1 : ((n : Int) == (many : Int)) = true := by simp; omega
        have E2 := Lib.hid (decide_eq_true hnm); clear hnm
        go_wp2_with fail
        go_ret
        exact ⟨ret_bool (by rw [AL.out, E2.out]; rfl), below_gw w x⟩
      · have e1 : ((n : Int) == (many : Int)) = false := by simp; omega
        have E2 := Lib.hid (decide_eq_false hnm); clear hnm
        go_wp2_with fail
        go_ret
        exact ⟨ret_bool (by rw [AL.out, E2.out]; rfl), below_gw w x⟩
theorem rrows_b {b : Bool} (a : Option Addr) (n c many wide : Nat) (R : Nat → RowD) (w : World) (hn : n ≤ 9223372036854775807) (hw : wide ≤ 9223372036854775807) (hm : many ≤ 9223372036854775807) (hl : ∀ i, i < n → (R i).n ≤ 9223372036854775807) (hR : RowsAt w a n R)
    (h : (allB n (fun i => rowB wide (R i)) && decide (n = many)) = b) :
    Calls Try.prog 59 #[.slice a n c, .int .i64 many, .int .i64 wide] w fun e w' => e = .returned (.bool b) ∧ Below w.heap.size w w' := h ▸ rrows_any a n c many wide R w hn hw hm hl hR

set_option maxRecDepth 100000 in
set_option maxHeartbeats 4000000 in
theorem rClimate_any (C : Clim) (w : World) (hC : C.In w) (hf : C.Fits) :
    Calls Try.prog 26 #[.agg #[.int .i64 C.days, .slice C.aA C.nA C.cA, .slice C.aW C.nW C.cW]] w fun e w' => e = .returned (.bool (climB C)) ∧ Below w.heap.size w w' := by
  obtain ⟨W1, hW1⟩ : ∃ W1, w.alloc (.cells #[.int .i64 C.days, .slice C.aA C.nA C.cA, .slice C.aW C.nW C.cW] 24) = W1 := ⟨_, rfl⟩
  have hBc : Below w.heap.size w W1 := by rw [← hW1]; exact below_alloc _ _
  have zc0 : W1.heap[w.heap.size]? = some (.cells #[.int .i64 C.days, .slice C.aA C.nA C.cA, .slice C.aW C.nW C.cW] 24 (0, 0)) := by rw [← hW1]; exact alloc_at rfl
  have c00 : W1.cell? ⟨w.heap.size, 0, none⟩ = some (.int .i64 C.days) := cell_of_block zc0 0 (by simp)
  have c01 : W1.cell? ⟨w.heap.size, 1, none⟩ = some (.slice C.aA C.nA C.cA) := cell_of_block zc0 1 (by simp)
  have c02 : W1.cell? ⟨w.heap.size, 2, none⟩ = some (.slice C.aW C.nW C.cW) := cell_of_block zc0 2 (by simp)
  have lc0 := (Array.getElem?_eq_some_iff.1 zc0).1
  clear zc0
  have HBc := Lib.hid hBc; clear hBc
  have HWc := Lib.hid hW1; clear hW1
  have HC := Lib.hid (hC.below HBc.out); clear hC
  have na := hf.na
  have nw := hf.nw
  cases h1 : inB C.days 1 366 with
  | false =>
    have RB := Lib.hid (show climB C = false by simp [climB, climH, h1])
    have H1 := Lib.hid h1; clear h1
    go_enter Try.func26, Try.ntmps26
    go_wp2_with fail
    rw [HWc.out]
    go_wp2_with fail
    refine (rin_b _ _ _ _ H1.out).mono ?_
    rintro e w1 ⟨rfl, rfl⟩
    go_wp2_with fail
    go_ret
    exact ⟨by rw [RB.out]; rfl, HBc.out⟩
  | true =>
    cases h2 : inB C.nA 1 8 with
    | false =>
      have RB := Lib.hid (show climB C = false by simp [climB, climH, h1, h2])
      have H1 := Lib.hid h1; clear h1
      have H2 := Lib.hid h2; clear h2
      go_enter Try.func26, Try.ntmps26
      go_wp2_with fail
      rw [HWc.out]
      go_wp2_with fail
      refine (rin_b _ _ _ _ H1.out).mono ?_
      rintro e w1 ⟨rfl, rfl⟩
      go_wp2_with fail
      refine (rin_b _ _ _ _ H2.out).mono ?_
      rintro e w1 ⟨rfl, rfl⟩
      go_wp2_with fail
      go_ret
      exact ⟨by rw [RB.out]; rfl, HBc.out⟩
    | true =>
      have r2 := inB_t.1 h2
      obtain ⟨b, off, ea, lb, x0⟩ := HC.out.ra.first (by omega)
      have l0 := hf.la 0 (by omega)
      rw [ea] at c01
      have EA := Lib.hid ea; clear ea
      have HF := Lib.hid hf
      cases h3 : inB (C.RA 0).n 1 12 with
      | false =>
        have RB := Lib.hid (show climB C = false by simp [climB, climH, h1, h2, h3])
        have H1 := Lib.hid h1; clear h1
        have H2 := Lib.hid h2; clear h2
        have H3 := Lib.hid h3; clear h3
        go_enter Try.func26, Try.ntmps26
        go_wp2_with fail
        rw [HWc.out]
        go_wp2_with fail
        refine (rin_b _ _ _ _ H1.out).mono ?_
        rintro e w1 ⟨rfl, rfl⟩
        go_wp2_with fail
        refine (rin_b _ _ _ _ H2.out).mono ?_
        rintro e w1 ⟨rfl, rfl⟩
        go_wp2_with fail
        refine (rin_b _ _ _ _ H3.out).mono ?_
        rintro e w1 ⟨rfl, rfl⟩
        go_wp2_with fail
        go_ret
        exact ⟨by rw [RB.out]; rfl, HBc.out⟩
      | true =>
        have r3 := inB_t.1 h3
        cases h4 : allB C.nA (fun i => rowB (C.RA 0).n (C.RA i)) with
        | false =>
          have RB := Lib.hid (show climB C = false by simp [climB, climH, h1, h2, h3, h4])
          have H1 := Lib.hid h1; clear h1
          have H2 := Lib.hid h2; clear h2
          have H3 := Lib.hid h3; clear h3
          have H4 := Lib.hid h4; clear h4
          go_enter Try.func26, Try.ntmps26
          go_wp2_with fail
          rw [HWc.out]
          go_wp2_with fail
          refine (rin_b _ _ _ _ H1.out).mono ?_
          rintro e w1 ⟨rfl, rfl⟩
          go_wp2_with fail
          refine (rin_b _ _ _ _ H2.out).mono ?_
          rintro e w1 ⟨rfl, rfl⟩
          go_wp2_with fail
          refine (rin_b _ _ _ _ H3.out).mono ?_
          rintro e w1 ⟨rfl, rfl⟩
          go_wp2_with fail
          refine (Calls.grown (rrows_b (b := false) (some ⟨b, off, none⟩) _ _ _ _ C.RA _ na (by omega) (by omega) HF.out.la (EA.out ▸ HC.out.ra.below (Below.refl _ W1)) (by rw [H4.out]; simp))).mono ?_
          rintro e w1 ⟨rfl, z3, rfl⟩
          go_wp2_with fail
          go_ret
          exact ⟨by rw [RB.out]; rfl, HBc.out.gw z3⟩
        | true =>
          cases h5 : (allB C.nW (fun i => rowB (C.RA 0).n (C.RW i)) && decide (C.nW = C.nA)) with
          | false =>
            have RB := Lib.hid (show climB C = false by rw [← h5]; simp only [climB, climH, h1, h2, h3, h4, Bool.true_and, Bool.and_true]; exact Bool.and_comm _ _)
            have H1 := Lib.hid h1; clear h1
            have H2 := Lib.hid h2; clear h2
            have H3 := Lib.hid h3; clear h3
            have H4 := Lib.hid h4; clear h4
            have H5 := Lib.hid h5; clear h5
            go_enter Try.func26, Try.ntmps26
            go_wp2_with fail
            rw [HWc.out]
            go_wp2_with fail
            refine (rin_b _ _ _ _ H1.out).mono ?_
            rintro e w1 ⟨rfl, rfl⟩
            go_wp2_with fail
            refine (rin_b _ _ _ _ H2.out).mono ?_
            rintro e w1 ⟨rfl, rfl⟩
            go_wp2_with fail
            refine (rin_b _ _ _ _ H3.out).mono ?_
            rintro e w1 ⟨rfl, rfl⟩
            go_wp2_with fail
            refine (Calls.grown (rrows_b (b := true) (some ⟨b, off, none⟩) _ _ _ _ C.RA _ na (by omega) (by omega) HF.out.la (EA.out ▸ HC.out.ra.below (Below.refl _ W1)) (by rw [H4.out]; simp))).mono ?_
            rintro e w1 ⟨rfl, z3, rfl⟩
            go_wp2_with fail
            refine (Calls.gw_of (rrows_b _ _ _ _ _ C.RW _ nw (by omega) (by omega) HF.out.lw (HC.out.rw.below (below_gw W1 z3)) H5.out)).mono ?_
            rintro e w1 ⟨rfl, z4, rfl⟩
            go_wp2_with fail
            go_ret
            exact ⟨by rw [RB.out]; rfl, HBc.out.gw z4⟩
          | true =>
            have RB := Lib.hid (show climB C = true by rw [← h5]; simp only [climB, climH, h1, h2, h3, h4, Bool.true_and, Bool.and_true]; exact Bool.and_comm _ _)
            have H1 := Lib.hid h1; clear h1
            have H2 := Lib.hid h2; clear h2
            have H3 := Lib.hid h3; clear h3
            have H4 := Lib.hid h4; clear h4
            have H5 := Lib.hid h5; clear h5
            go_enter Try.func26, Try.ntmps26
            go_wp2_with fail
            rw [HWc.out]
            go_wp2_with fail
            refine (rin_b _ _ _ _ H1.out).mono ?_
            rintro e w1 ⟨rfl, rfl⟩
            go_wp2_with fail
            refine (rin_b _ _ _ _ H2.out).mono ?_
            rintro e w1 ⟨rfl, rfl⟩
            go_wp2_with fail
            refine (rin_b _ _ _ _ H3.out).mono ?_
            rintro e w1 ⟨rfl, rfl⟩
            go_wp2_with fail
            refine (Calls.grown (rrows_b (b := true) (some ⟨b, off, none⟩) _ _ _ _ C.RA _ na (by omega) (by omega) HF.out.la (EA.out ▸ HC.out.ra.below (Below.refl _ W1)) (by rw [H4.out]; simp))).mono ?_
            rintro e w1 ⟨rfl, z3, rfl⟩
            go_wp2_with fail
            refine (Calls.gw_of (rrows_b _ _ _ _ _ C.RW _ nw (by omega) (by omega) HF.out.lw (HC.out.rw.below (below_gw W1 z3)) H5.out)).mono ?_
            rintro e w1 ⟨rfl, z4, rfl⟩
            go_wp2_with fail
            go_ret
            exact ⟨by rw [RB.out]; rfl, HBc.out.gw z4⟩
theorem rClimate_b {b : Bool} (C : Clim) (w : World) (hC : C.In w) (hf : C.Fits) (h : climB C = b) :
    Calls Try.prog 26 #[.agg #[.int .i64 C.days, .slice C.aA C.nA C.cA, .slice C.aW C.nW C.cW]] w fun e w' => e = .returned (.bool b) ∧ Below w.heap.size w w' := h ▸ rClimate_any C w hC hf
end Go.Proofs.Ytljofnmgddfljaa
