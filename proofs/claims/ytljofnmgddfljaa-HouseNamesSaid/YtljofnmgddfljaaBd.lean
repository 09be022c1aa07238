/- Contracts of isContent, areStays, left. No conditions beyond each theorem's own. -/
import Derived.Test.YtljofnmgddfljaaBc
import Derived.Deep.DeepCutAuto
set_option linter.unusedVariables false
set_option linter.unusedSimpArgs false
set_option linter.unusedSectionVars false
set_option linter.constructorNameAsVariable false
namespace Go.Proofs.Ytljofnmgddfljaa
open Go.RowKit

attribute [local go_sem] gw_cell gw_frozen gw_size

/-- a content -/
structure Cont where
  day : Int
  alo : Int
  ahi : Int
  wlo : Int
  whi : Int
def contB (x : Cont) : Bool := inB x.day 0 65536 && (spanB x.alo x.ahi 0 2147483648 && spanB x.wlo x.whi 0 2147483648)
theorem contB_t {x : Cont} (h : contB x = true) : (0 ≤ x.day ∧ x.day ≤ 65536) ∧ (0 ≤ x.alo ∧ x.alo ≤ x.ahi ∧ x.ahi ≤ 2147483648) ∧ (0 ≤ x.wlo ∧ x.wlo ≤ x.whi ∧ x.whi ≤ 2147483648) := by
  simp only [contB, Bool.and_eq_true] at h
  exact ⟨inB_t.1 h.1, spanB_t.1 h.2.1, spanB_t.1 h.2.2⟩

set_option maxHeartbeats 1000000 in
theorem isContent_any (x : Cont) (w : World) :
    Calls Try.prog 63 #[.agg #[.int .i64 x.day, .int .i64 x.alo, .int .i64 x.ahi, .int .i64 x.wlo, .int .i64 x.whi]] w fun e w' => e = .returned (.bool (contB x)) ∧ Below w.heap.size w w' := by
  obtain ⟨W1, hW1⟩ : ∃ W1, w.alloc (.cells #[.int .i64 x.day, .int .i64 x.alo, .int .i64 x.ahi, .int .i64 x.wlo, .int .i64 x.whi] 28) = W1 := ⟨_, rfl⟩
  have hB : Below w.heap.size w W1 := by rw [← hW1]; exact below_alloc _ _
  have hk : W1.heap[w.heap.size]? = some (.cells #[.int .i64 x.day, .int .i64 x.alo, .int .i64 x.ahi, .int .i64 x.wlo, .int .i64 x.whi] 28 (0, 0)) := by rw [← hW1]; exact World.alloc_heap_new w _
  have k0 : W1.cell? ⟨w.heap.size, 0, none⟩ = some (.int .i64 x.day) := cell_of_block hk 0 (by simp)
  have k1 : W1.cell? ⟨w.heap.size, 1, none⟩ = some (.int .i64 x.alo) := cell_of_block hk 1 (by simp)
  have k2 : W1.cell? ⟨w.heap.size, 2, none⟩ = some (.int .i64 x.ahi) := cell_of_block hk 2 (by simp)
  have k3 : W1.cell? ⟨w.heap.size, 3, none⟩ = some (.int .i64 x.wlo) := cell_of_block hk 3 (by simp)
  have k4 : W1.cell? ⟨w.heap.size, 4, none⟩ = some (.int .i64 x.whi) := cell_of_block hk 4 (by simp)
  have lt := (Array.getElem?_eq_some_iff.1 hk).1
  have HB := Lib.hid hB; clear hB hk
  have HW1 := Lib.hid hW1; clear hW1
  cases h1 : inB x.day 0 65536 with
  | false =>
    have RB := Lib.hid (show contB x = false by unfold contB; rw [h1]; rfl)
    have H1 := Lib.hid h1; clear h1
    go_enter Try.func63, Try.ntmps63
    go_wp2_with fail
    rw [HW1.out]
    go_wp2_with fail
    refine (within_b _ _ _ _ H1.out).mono ?_
    rintro e w1 ⟨rfl, rfl⟩
    go_wp2_with fail
    go_ret
    exact ⟨by rw [RB.out]; rfl, HB.out⟩
  | true =>
    cases h2 : spanB x.alo x.ahi 0 2147483648 with
    | false =>
      have RB := Lib.hid (show contB x = false by unfold contB; rw [h1, h2]; rfl)
      have H1 := Lib.hid h1; clear h1
      have H2 := Lib.hid h2; clear h2
      go_enter Try.func63, Try.ntmps63
      go_wp2_with fail
      rw [HW1.out]
      go_wp2_with fail
      refine (within_b _ _ _ _ H1.out).mono ?_
      rintro e w1 ⟨rfl, rfl⟩
      go_wp2_with fail
      refine (Calls.grown (isSpan_b _ _ _ _ _ H2.out)).mono ?_
      rintro e w1 ⟨rfl, y, rfl⟩
      go_wp2_with fail
      go_ret
      exact ⟨by rw [RB.out]; rfl, HB.out.gw y⟩
    | true =>
      cases h3 : spanB x.wlo x.whi 0 2147483648
      all_goals
        have RB := Lib.hid (show contB x = _ by unfold contB; rw [h1, h2, h3])
        have H1 := Lib.hid h1; clear h1
        have H2 := Lib.hid h2; clear h2
        have H3 := Lib.hid h3; clear h3
        go_enter Try.func63, Try.ntmps63
        go_wp2_with fail
        rw [HW1.out]
        go_wp2_with fail
        refine (within_b _ _ _ _ H1.out).mono ?_
        rintro e w1 ⟨rfl, rfl⟩
        go_wp2_with fail
        refine (Calls.grown (isSpan_b _ _ _ _ _ H2.out)).mono ?_
        rintro e w1 ⟨rfl, y, rfl⟩
        go_wp2_with fail
        refine (Calls.gw_of (isSpan_b _ _ _ _ _ H3.out)).mono ?_
        rintro e w1 ⟨rfl, z, rfl⟩
        go_wp2_with fail
        go_ret
        exact ⟨by rw [RB.out]; rfl, HB.out.gw z⟩

theorem isContent_b {b : Bool} (x : Cont) (w : World) (h : contB x = b) :
    Calls Try.prog 63 #[.agg #[.int .i64 x.day, .int .i64 x.alo, .int .i64 x.ahi, .int .i64 x.wlo, .int .i64 x.whi]] w fun e w' => e = .returned (.bool b) ∧ Below w.heap.size w w' := h ▸ isContent_any x w
theorem isClimate_b {b : Bool} (C : Clim) (w : World) (hC : C.In w) (hf : C.Fits) (h : climB C = b) :
    Calls Try.prog 65 #[.agg #[.int .i64 C.days, .slice C.aA C.nA C.cA, .slice C.aW C.nW C.cW]] w fun e w' => e = .returned (.bool b) ∧ Below w.heap.size w w' := h ▸ isClimate_any C w hC hf

/-- a stay is as it should be -/
def stayB (nA : Nat) (F G : Nat → Int) (i : Nat) : Bool := inB (F i) 0 65536 && (inB (G i) 0 (nA - 1) && (decide (i = 0) || decide (F (i - 1) < F i)))
def staysB (nA n : Nat) (F G : Nat → Int) : Bool := inB n 1 64 && allB n (stayB nA F G)

set_option maxRecDepth 100000 in
set_option maxHeartbeats 4000000 in
theorem areStays_any (C : Clim) (aS : Option Addr) (n c : Nat) (F G : Nat → Int) (w : World) (hf : C.Fits) (hn : n ≤ 9223372036854775807) (hS : SpansAt w aS n F G) :
    Calls Try.prog 66 #[.agg #[.int .i64 C.days, .slice C.aA C.nA C.cA, .slice C.aW C.nW C.cW], .slice aS n c] w fun e w' => e = .returned (.bool (staysB C.nA n F G)) ∧ Below w.heap.size w w' := by
  have na := hf.na
  clear hf
  obtain ⟨W1, hW1⟩ : ∃ W1, w.alloc (.cells #[.int .i64 C.days, .slice C.aA C.nA C.cA, .slice C.aW C.nW C.cW] 24) = W1 := ⟨_, rfl⟩
  have hB : Below w.heap.size w W1 := by rw [← hW1]; exact below_alloc _ _
  have c1 : W1.cell? ⟨w.heap.size, 1, none⟩ = some (.slice C.aA C.nA C.cA) := by rw [← hW1]; simp
  have lt : w.heap.size < W1.heap.size := by rw [← hW1]; simp
  have HS := Lib.hid (hS.below hB); clear hS
  have HB := Lib.hid hB; clear hB
  have HW1 := Lib.hid hW1; clear hW1
  go_enter Try.func66, Try.ntmps66
  go_wp2_with fail
  rw [HW1.out]
  go_loopw [9] (fun t wr => ∃ k : Nat, k ≤ n ∧ t = .int .i64 k ∧ Hid (∀ i, i < k → stayB C.nA F G i = true) ∧ ∃ x, wr = gw W1 x) (fun t _ => n - (intOf t).toNat)
  case atStart => exact ⟨0, Nat.zero_le _, rfl, Lib.hid (fun i hi => by omega), ⟨#[], W1.drawn⟩, by simp [gw]⟩
  case round =>
    obtain ⟨k, hk, rfl, hall, x, rfl⟩ := hrel
    by_cases hlt : k < n
    · rcases HS.out with h0 | ⟨b, off, rfl, lb, hc⟩
      · omega
      obtain ⟨x1, x2⟩ := hc k hlt
      have xp := fun h : 0 < k => (hc (k - 1) (by omega)).1
      clear hc
      obtain ⟨W2, hW2⟩ : ∃ W2, (gw W1 x).alloc (.cells #[.int .i64 (F k), .int .i64 (G k)] 53) = W2 := ⟨_, rfl⟩
      have hB2 : Below (gw W1 x).heap.size (gw W1 x) W2 := by rw [← hW2]; exact below_alloc _ _
      have B12 : Below W1.heap.size W1 W2 := thru hB2 (below_gw W1 x)
      have q0 : W2.cell? ⟨(gw W1 x).heap.size, 0, none⟩ = some (.int .i64 (F k)) := by rw [← hW2]; simp
      have q1 : W2.cell? ⟨(gw W1 x).heap.size, 1, none⟩ = some (.int .i64 (G k)) := by rw [← hW2]; simp
      have ql : (gw W1 x).heap.size < W2.heap.size := by rw [← hW2]; simp
      have c1' := below_cell B12 c1
      have lt' : w.heap.size < W2.heap.size := Nat.lt_of_lt_of_le lt B12.size
      have lb' : b < W2.heap.size := Nat.lt_of_lt_of_le lb B12.size
      have xp' := fun h : 0 < k => below_cell B12 (xp h)
      clear xp
      have HB2 := Lib.hid B12; clear hB2 B12
      rw [gw_size] at q0 q1 ql
      have HW2 := Lib.hid hW2; clear hW2
      cases g1 : inB (F k) 0 65536 with
      | false =>
        have RB := Lib.hid (show staysB C.nA n F G = false by unfold staysB; rw [allB_f hlt (show stayB C.nA F G k = false by unfold stayB; rw [g1]; rfl)]; simp)
        have G1 := Lib.hid g1; clear g1 xp'
        go_upto_region 4 with (fail)
        rw [HW2.out]
        refine wp_region_gw (by kernel_rfl) (by kernel_rfl) ?_
        repeat (go_big_quiet_step ((go_at_call 67; first | exact Calls.gw_of_same (within_b _ _ _ _ G1.out) | exact Calls.gw_of_same (within_b _ _ _ _ G2.out))))
        refine wpQuiet_nil ?_
        rintro _ ⟨z, rfl⟩
        go_wp2_with fail
        go_ret
        exact ⟨by rw [RB.out]; rfl, (thru HB2.out HB.out).gw z⟩
      | true =>
        cases g2 : inB (G k) 0 (C.nA - 1) with
        | false =>
          have RB := Lib.hid (show staysB C.nA n F G = false by unfold staysB; rw [allB_f hlt (show stayB C.nA F G k = false by unfold stayB; rw [g1, g2]; rfl)]; simp)
          have G1 := Lib.hid g1; clear g1 xp'
          have G2 := Lib.hid g2; clear g2
          go_upto_region 4 with (fail)
          rw [HW2.out]
          refine wp_region_gw (by kernel_rfl) (by kernel_rfl) ?_
          repeat (go_big_quiet_step ((go_at_call 67; first | exact Calls.gw_of_same (within_b _ _ _ _ G1.out) | exact Calls.gw_of_same (within_b _ _ _ _ G2.out))))
          refine wpQuiet_nil ?_
          rintro _ ⟨z, rfl⟩
          go_wp2_with fail
          go_ret
          exact ⟨by rw [RB.out]; rfl, (thru HB2.out HB.out).gw z⟩
        | true =>
          by_cases hk0 : k = 0
          · have ST := Lib.hid (show stayB C.nA F G k = true by unfold stayB; rw [g1, g2, decide_eq_true hk0]; rfl)
            have e1 : decide (0 < k) = false := by simp; omega
            have HK0 := Lib.hid hk0; clear hk0
            have G1 := Lib.hid g1; clear g1 xp'
            have G2 := Lib.hid g2; clear g2
            go_upto_region 4 with (fail)
            rw [HW2.out]
            refine wp_region_gw (by kernel_rfl) (by kernel_rfl) ?_
            repeat (go_big_quiet_step ((go_at_call 67; first | exact Calls.gw_of_same (within_b _ _ _ _ G1.out) | exact Calls.gw_of_same (within_b _ _ _ _ G2.out))))
            refine wpQuiet_nil ?_
            rintro _ ⟨z, rfl⟩
            go_wp2_with fail
            go_roundw
            case rel => exact ⟨k + 1, by omega, by go_num, Lib.hid (all_succ (P := fun i => stayB C.nA F G i = true) hall.out ST.out), gw_of_below ((HB2.out).gw z)⟩
            case measure => simp [intOf]; omega
          · have k1 : 0 < k := by omega
            have e1 : decide ((0 : Int) < (k : Int)) = true := by simp; omega
            obtain ⟨j, rfl⟩ : ∃ j : Nat, k = j + 1 := ⟨k - 1, by omega⟩
            have xj := xp' k1
            rw [Nat.add_sub_cancel] at xj
            by_cases g3 : F j < F (j + 1)
            · have ST := Lib.hid (show stayB C.nA F G (j + 1) = true by unfold stayB; rw [g1, g2, Nat.add_sub_cancel, decide_eq_true g3]; simp)
              have e3 : decide (F (j + 1) ≤ F j) = false := by simp; omega
              have G1 := Lib.hid g1; clear g1 xp'
              have G2 := Lib.hid g2; clear g2
              go_upto_region 4 with (fail)
              rw [HW2.out]
              refine wp_region_gw (by kernel_rfl) (by kernel_rfl) ?_
              repeat (go_big_quiet_step ((go_at_call 67; first | exact Calls.gw_of_same (within_b _ _ _ _ G1.out) | exact Calls.gw_of_same (within_b _ _ _ _ G2.out))))
              refine wpQuiet_nil ?_
              rintro _ ⟨z, rfl⟩
              go_wp2_with fail
              go_roundw
              case rel => exact ⟨j + 1 + 1, by omega, by go_num, Lib.hid (all_succ (P := fun i => stayB C.nA F G i = true) hall.out ST.out), gw_of_below ((HB2.out).gw z)⟩
              case measure => simp [intOf]; omega
            · have RB := Lib.hid (show staysB C.nA n F G = false by unfold staysB; rw [allB_f hlt (show stayB C.nA F G (j + 1) = false by unfold stayB; rw [g1, g2, Nat.add_sub_cancel, decide_eq_false g3]; simp)]; simp)
              have e3 : decide (F (j + 1) ≤ F j) = true := by simp; omega
              have G1 := Lib.hid g1; clear g1 xp'
              have G2 := Lib.hid g2; clear g2
              go_upto_region 4 with (fail)
              rw [HW2.out]
              refine wp_region_gw (by kernel_rfl) (by kernel_rfl) ?_
              repeat (go_big_quiet_step ((go_at_call 67; first | exact Calls.gw_of_same (within_b _ _ _ _ G1.out) | exact Calls.gw_of_same (within_b _ _ _ _ G2.out))))
              refine wpQuiet_nil ?_
              rintro _ ⟨z, rfl⟩
              go_wp2_with fail
              go_ret
              exact ⟨by rw [RB.out]; rfl, (thru HB2.out HB.out).gw z⟩
    · obtain rfl : n = k := by omega
      have AL := Lib.hid (allB_t.2 hall.out)
      cases g : inB n 1 64
      all_goals
        have RB := Lib.hid (show staysB C.nA n F G = _ by unfold staysB; rw [g, AL.out])
        have G0 := Lib.hid g; clear g
        go_wp2_with fail
        refine (within_b _ _ _ _ G0.out).mono ?_
        rintro e w1 ⟨rfl, rfl⟩
        go_wp2_with fail
        go_ret
        exact ⟨by rw [RB.out]; rfl, HB.out.gw x⟩
theorem areStays_b {b : Bool} (C : Clim) (aS : Option Addr) (n c : Nat) (F G : Nat → Int) (w : World) (hf : C.Fits) (hn : n ≤ 9223372036854775807) (hS : SpansAt w aS n F G) (h : staysB C.nA n F G = b) :
    Calls Try.prog 66 #[.agg #[.int .i64 C.days, .slice C.aA C.nA C.cA, .slice C.aW C.nW C.cW], .slice aS n c] w fun e w' => e = .returned (.bool b) ∧ Below w.heap.size w w' := h ▸ areStays_any C aS n c F G w hf hn hS
end Go.Proofs.Ytljofnmgddfljaa
