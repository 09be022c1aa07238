/- Contracts of the small functions of package malt. Contracts of isStep, of steps, of the six steps. No conditions beyond each theorem's own. -/
import Derived.Test.YtfefmgadfklgmaaProg
import Derived.Test.YtfefmgadfklgmaaAa
import Derived.Test.YtfefmgadfklgmaaAb
import Derived.Test.YtfefmgadfklgmaaAl
import Derived.Test.YtfefmgadfklgmaaAo
import Derived.Lib.Hide
import Derived.Shelf.Abstract
import Derived.Carry
import Derived.BigQuiet
set_option linter.unusedVariables false
set_option linter.unusedSimpArgs false
set_option linter.unusedSectionVars false
set_option linter.constructorNameAsVariable false
namespace Go.Proofs.Ytfefmgadfklgmaa.L2
open Go.RowKit

attribute [local go_sem] gw_cell gw_frozen gw_size

set_option maxHeartbeats 400000 in
theorem within_any (n lo hi : Int) (w : World) :
    Calls Try.prog 57 #[.int .i64 n, .int .i64 lo, .int .i64 hi] w fun e w' => e = .returned (.bool (inB n lo hi)) ∧ w = w' := by
  by_cases h0 : lo ≤ n
  · by_cases h1 : n ≤ hi
    · have hb : inB n lo hi = true := by simp [inB, h0, h1]
      rw [hb]; clear hb
      go_enter Try.func57, Try.ntmps57
      go_wp2
      go_ret
      exact ⟨rfl, rfl⟩
    · have hb : inB n lo hi = false := by simp [inB, h1]
      rw [hb]; clear hb
      go_enter Try.func57, Try.ntmps57
      go_wp2
      go_ret
      exact ⟨rfl, rfl⟩
  · have hb : inB n lo hi = false := by simp [inB, h0]
    rw [hb]; clear hb
    go_enter Try.func57, Try.ntmps57
    go_wp2
    go_ret
    exact ⟨rfl, rfl⟩

set_option maxHeartbeats 400000 in
theorem isSpan_any (lo hi high : Int) (w : World) :
    Calls Try.prog 41 #[.agg #[.int .i64 lo, .int .i64 hi], .int .i64 high] w fun e w' => e = .returned (.bool (spanB lo hi 0 high)) ∧ Below w.heap.size w w' := by
  by_cases h0 : 0 ≤ lo
  · by_cases h1 : lo ≤ hi
    · by_cases h2 : hi ≤ high
      · have hb : spanB lo hi 0 high = true := by simp [spanB, h0, h1, h2]
        rw [hb]; clear hb
        go_enter Try.func41, Try.ntmps41
        go_wp2
        go_ret
        exact ⟨rfl, (Below.refl _ _).alloc (Nat.le_refl _) _⟩
      · have hb : spanB lo hi 0 high = false := by simp [spanB, h2]
        rw [hb]; clear hb
        go_enter Try.func41, Try.ntmps41
        go_wp2
        go_ret
        exact ⟨rfl, (Below.refl _ _).alloc (Nat.le_refl _) _⟩
    · have hb : spanB lo hi 0 high = false := by simp [spanB, h1]
      rw [hb]; clear hb
      go_enter Try.func41, Try.ntmps41
      go_wp2
      go_ret
      exact ⟨rfl, (Below.refl _ _).alloc (Nat.le_refl _) _⟩
  · have hb : spanB lo hi 0 high = false := by simp [spanB, h0]
    rw [hb]; clear hb
    go_enter Try.func41, Try.ntmps41
    go_wp2
    go_ret
    exact ⟨rfl, (Below.refl _ _).alloc (Nat.le_refl _) _⟩

theorem isSpan_b {b : Bool} (lo hi high : Int) (w : World) (h : spanB lo hi 0 high = b) :
    Calls Try.prog 41 #[.agg #[.int .i64 lo, .int .i64 hi], .int .i64 high] w fun e w' => e = .returned (.bool b) ∧ Below w.heap.size w w' := h ▸ isSpan_any lo hi high w
theorem within_b {b : Bool} (n lo hi : Int) (w : World) (h : inB n lo hi = b) :
    Calls Try.prog 57 #[.int .i64 n, .int .i64 lo, .int .i64 hi] w fun e w' => e = .returned (.bool b) ∧ w = w' := h ▸ within_any n lo hi w

theorem need_ok (n : Int) (w : World) :
    Calls Try.prog 42 #[.bool true, .int .i64 n] w fun e w' => e = .returned (.tuple #[]) ∧ w = w' := by
  go_enter Try.func42, Try.ntmps42
  go_wp2
  refine bodyPost_end (results_none rfl _ _ _) rfl ⟨rfl, rfl⟩
/-- the panic of a step that has an error -/
def misfit (n : Int) : List PanicEntry := [{ v := .iface 78 (.agg #[.int .i64 n]), recovered := false }]
theorem need_not (n : Int) (w : World) :
    Calls Try.prog 42 #[.bool false, .int .i64 n] w fun e w' => e = .panicked (misfit n) ∧ w = w' := by
  unfold misfit
  go_enter Try.func42, Try.ntmps42
  go_wp2
  simp [bodyPost]

set_option maxHeartbeats 400000 in
theorem of_any (a b : Int) (w : World) :
    Calls Try.prog 60 #[.int .i64 a, .int .i64 b] w fun e w' => e = .returned (.agg #[.int .i64 a, .int .i64 b]) ∧ Below w.heap.size w w' := by
  go_enter Try.func60, Try.ntmps60
  go_wp2
  refine bodyPost_ret (v := .agg #[.int .i64 a, .int .i64 b]) (by simp [results, Try.results60, go_sem]) rfl ⟨rfl, ?_⟩
  exact below_alloc w _

set_option maxHeartbeats 1000000 in
theorem plus_any (alo ahi tlo thi : Int) (w : World) (h1 : -4000000000000000000 ≤ alo + tlo) (h2 : alo + tlo ≤ 4000000000000000000) (h3 : -4000000000000000000 ≤ ahi + thi) (h4 : ahi + thi ≤ 4000000000000000000) :
    Calls Try.prog 59 #[.agg #[.int .i64 alo, .int .i64 ahi], .agg #[.int .i64 tlo, .int .i64 thi]] w fun e w' => e = .returned (.agg #[.int .i64 (alo + tlo), .int .i64 (ahi + thi)]) ∧ Below w.heap.size w w' := by
  have OF := Lib.hid (fun w => of_any (alo + tlo) (ahi + thi) w)
  go_enter Try.func59, Try.ntmps59
  go_wp2_with fail
  refine (Calls.grown (OF.out _)).mono ?_
  rintro e w1 ⟨rfl, z, rfl⟩
  go_wp2_with fail
  refine bodyPost_ret (v := .agg #[.int .i64 (alo + tlo), .int .i64 (ahi + thi)]) (by simp [results, Try.results59, go_sem]) rfl ⟨rfl, ?_⟩
  exact (((((((Below.refl _ w).alloc (Nat.le_refl _) _).alloc (by simp) _).alloc (by simp; omega) _).gw z).setCell (by simp <;> omega) _).setCell (by simp <;> omega) _)

set_option maxHeartbeats 1000000 in
theorem part_any (lo hi a b u : Int) (w : World) (a0 : 0 ≤ lo * a) (a1 : lo * a ≤ 4000000000000000000) (b0 : 0 ≤ hi * b) (b1 : hi * b ≤ 4000000000000000000) (u0 : 1 ≤ u) (u1 : u ≤ 1000000) :
    Calls Try.prog 62 #[.agg #[.int .i64 lo, .int .i64 hi], .int .i64 a, .int .i64 b, .int .i64 u] w fun e w' => e = .returned (.agg #[.int .i64 (upI (lo * a) u), .int .i64 (hi * b / u)]) ∧ Below w.heap.size w w' := by
  have OF := Lib.hid (fun w => of_any ((lo * a + u - 1) / u) (hi * b / u) w)
  have hu : ¬ u = 0 := by omega
  have q0 := Int.ediv_nonneg (show 0 ≤ lo * a + u - 1 by omega) (show 0 ≤ u by omega)
  have q1 := Int.ediv_nonneg b0 (show 0 ≤ u by omega)
  have q2 := Int.ediv_le_self u (show 0 ≤ lo * a + u - 1 by omega)
  have q3 := Int.ediv_le_self u b0
  unfold upI
  go_enter Try.func62, Try.ntmps62
  go_wp2
  refine wp_region_gw_tail 18 (by kernel_rfl) (by kernel_rfl) ?_
  simp only [List.take_succ_cons, List.take_zero]
  repeat (go_big_quiet_step ((go_at_call 60; with_reducible exact Calls.gw_of (OF.out _))))
  refine wpQuiet_nil ?_
  rintro _ ⟨x, rfl⟩
  simp only [List.drop_succ_cons, List.drop_zero]
  go_wp2
  refine bodyPost_ret (v := .agg #[.int .i64 ((lo * a + u - 1) / u), .int .i64 (hi * b / u)]) (by simp [results, Try.results62, go_sem]) rfl ⟨rfl, ?_⟩
  exact ((((((Below.refl _ w).alloc (Nat.le_refl _) _).alloc (by simp) _).gw x).setCell (by simp <;> omega) _).setCell (by simp <;> omega) _)

def maltB (dl dh wl wh pl ph : Int) : Bool := spanB dl dh 0 1099511627776 && (spanB wl wh 0 1099511627776 && spanB pl ph 0 1099511627776)
set_option maxHeartbeats 1000000 in
theorem isMalt_any (dl dh wl wh pl ph : Int) (w : World) :
    Calls Try.prog 21 #[.agg #[.int .i64 dl, .int .i64 dh, .int .i64 wl, .int .i64 wh, .int .i64 pl, .int .i64 ph]] w fun e w' => e = .returned (.bool (maltB dl dh wl wh pl ph)) ∧ Below w.heap.size w w' := by
  unfold maltB
  obtain ⟨W1, hW1⟩ : ∃ W1, w.alloc (.cells #[.int .i64 dl, .int .i64 dh, .int .i64 wl, .int .i64 wh, .int .i64 pl, .int .i64 ph] 25) = W1 := ⟨_, rfl⟩
  have hBc : Below w.heap.size w W1 := by rw [← hW1]; exact below_alloc _ _
  have zc0 : W1.heap[w.heap.size]? = some (.cells #[.int .i64 dl, .int .i64 dh, .int .i64 wl, .int .i64 wh, .int .i64 pl, .int .i64 ph] 25 (0, 0)) := by rw [← hW1]; exact alloc_at rfl
  have c00 : W1.cell? ⟨w.heap.size, 0, none⟩ = some (.int .i64 dl) := cell_of_block zc0 0 (by simp)
  have c01 : W1.cell? ⟨w.heap.size, 1, none⟩ = some (.int .i64 dh) := cell_of_block zc0 1 (by simp)
  have c02 : W1.cell? ⟨w.heap.size, 2, none⟩ = some (.int .i64 wl) := cell_of_block zc0 2 (by simp)
  have c03 : W1.cell? ⟨w.heap.size, 3, none⟩ = some (.int .i64 wh) := cell_of_block zc0 3 (by simp)
  have c04 : W1.cell? ⟨w.heap.size, 4, none⟩ = some (.int .i64 pl) := cell_of_block zc0 4 (by simp)
  have c05 : W1.cell? ⟨w.heap.size, 5, none⟩ = some (.int .i64 ph) := cell_of_block zc0 5 (by simp)
  have lc0 := (Array.getElem?_eq_some_iff.1 zc0).1
  clear zc0
  have HBc := Lib.hid hBc; clear hBc
  have HWc := Lib.hid hW1; clear hW1
  cases e1 : spanB dl dh 0 1099511627776 with
  | false =>
    simp only [Bool.false_and, Bool.true_and, Bool.and_false, Bool.and_true]
    have S1 := Lib.hid (fun W => isSpan_b dl dh 1099511627776 W e1)
    clear e1
    go_enter Try.func21, Try.ntmps21
    go_upto_region 1 with (fail)
    rw [HWc.out]
    go_wp2_with fail
    refine (Calls.grown (S1.out _)).mono ?_
    rintro e w1 ⟨rfl, z1, rfl⟩
    go_wp2_with fail
    go_ret
    exact ⟨rfl, HBc.out.gw _⟩
  | true =>
    cases e2 : spanB wl wh 0 1099511627776 with
    | false =>
      simp only [Bool.false_and, Bool.true_and, Bool.and_false, Bool.and_true]
      have S1 := Lib.hid (fun W => isSpan_b dl dh 1099511627776 W e1)
      have S2 := Lib.hid (fun W => isSpan_b wl wh 1099511627776 W e2)
      clear e1 e2
      go_enter Try.func21, Try.ntmps21
      go_upto_region 1 with (fail)
      rw [HWc.out]
      go_wp2_with fail
      refine (Calls.grown (S1.out _)).mono ?_
      rintro e w1 ⟨rfl, z1, rfl⟩
      go_wp2_with fail
      refine (Calls.gw_of (S2.out _)).mono ?_
      rintro e w1 ⟨rfl, z2, rfl⟩
      go_wp2_with fail
      go_ret
      exact ⟨rfl, HBc.out.gw _⟩
    | true =>
      cases e3 : spanB pl ph 0 1099511627776 with
      | false =>
        simp only [Bool.false_and, Bool.true_and, Bool.and_false, Bool.and_true]
        have S1 := Lib.hid (fun W => isSpan_b dl dh 1099511627776 W e1)
        have S2 := Lib.hid (fun W => isSpan_b wl wh 1099511627776 W e2)
        have S3 := Lib.hid (fun W => isSpan_b pl ph 1099511627776 W e3)
        clear e1 e2 e3
        go_enter Try.func21, Try.ntmps21
        go_upto_region 1 with (fail)
        rw [HWc.out]
        go_wp2_with fail
        refine (Calls.grown (S1.out _)).mono ?_
        rintro e w1 ⟨rfl, z1, rfl⟩
        go_wp2_with fail
        refine (Calls.gw_of (S2.out _)).mono ?_
        rintro e w1 ⟨rfl, z2, rfl⟩
        go_wp2_with fail
        refine (Calls.gw_of (S3.out _)).mono ?_
        rintro e w1 ⟨rfl, z3, rfl⟩
        go_wp2_with fail
        go_ret
        exact ⟨rfl, HBc.out.gw _⟩
      | true =>
        simp only [Bool.false_and, Bool.true_and, Bool.and_false, Bool.and_true]
        have S1 := Lib.hid (fun W => isSpan_b dl dh 1099511627776 W e1)
        have S2 := Lib.hid (fun W => isSpan_b wl wh 1099511627776 W e2)
        have S3 := Lib.hid (fun W => isSpan_b pl ph 1099511627776 W e3)
        clear e1 e2 e3
        go_enter Try.func21, Try.ntmps21
        go_upto_region 1 with (fail)
        rw [HWc.out]
        go_wp2_with fail
        refine (Calls.grown (S1.out _)).mono ?_
        rintro e w1 ⟨rfl, z1, rfl⟩
        go_wp2_with fail
        refine (Calls.gw_of (S2.out _)).mono ?_
        rintro e w1 ⟨rfl, z2, rfl⟩
        go_wp2_with fail
        refine (Calls.gw_of (S3.out _)).mono ?_
        rintro e w1 ⟨rfl, z3, rfl⟩
        go_wp2_with fail
        go_ret
        exact ⟨rfl, HBc.out.gw _⟩
end Go.Proofs.Ytfefmgadfklgmaa.L2

namespace Go.Proofs.Ytfefmgadfklgmaa.L2
open Go.RowKit

attribute [local go_sem] gw_cell gw_frozen gw_size

/-- the greatest number of a step -/
def mostK (k : Int) : Int := if k = 1 ∨ k = 2 then 10000 else if k = 3 then 1048576 else 1099511627776
def stepB (k a b : Int) : Bool := inB k 0 5 && spanB a b 0 (mostK k)
theorem stepB_t {k a b : Int} (h : stepB k a b = true) : 0 ≤ k ∧ k ≤ 5 ∧ 0 ≤ a ∧ a ≤ b ∧ b ≤ mostK k := by
  unfold stepB at h
  simp only [Bool.and_eq_true] at h
  have h1 := inB_t.1 h.1
  have h2 := spanB_t.1 h.2
  omega
set_option maxHeartbeats 2000000 in
theorem isStep_any (k a b : Int) (w : World) :
    Calls Try.prog 43 #[.agg #[.int .i64 k, .int .i64 a, .int .i64 b]] w fun e w' => e = .returned (.bool (stepB k a b)) ∧ Below w.heap.size w w' := by
  unfold stepB
  obtain ⟨W1, hW1⟩ : ∃ W1, w.alloc (.cells #[.int .i64 k, .int .i64 a, .int .i64 b] 70) = W1 := ⟨_, rfl⟩
  have hBc : Below w.heap.size w W1 := by rw [← hW1]; exact below_alloc _ _
  have zc0 : W1.heap[w.heap.size]? = some (.cells #[.int .i64 k, .int .i64 a, .int .i64 b] 70 (0, 0)) := by rw [← hW1]; exact alloc_at rfl
  have c00 : W1.cell? ⟨w.heap.size, 0, none⟩ = some (.int .i64 k) := cell_of_block zc0 0 (by simp)
  have c01 : W1.cell? ⟨w.heap.size, 1, none⟩ = some (.int .i64 a) := cell_of_block zc0 1 (by simp)
  have c02 : W1.cell? ⟨w.heap.size, 2, none⟩ = some (.int .i64 b) := cell_of_block zc0 2 (by simp)
  have lc0 := (Array.getElem?_eq_some_iff.1 zc0).1
  clear zc0
  have HBc := Lib.hid hBc; clear hBc
  have HWc := Lib.hid hW1; clear hW1
  by_cases k1 : k = 1
  · have hm : mostK k = 10000 := by unfold mostK; rw [if_pos (.inl k1)]
    rw [hm]; clear hm
    cases e1 : inB k 0 5 <;> cases e2 : spanB a b 0 10000
    all_goals
      simp only [Bool.false_and, Bool.true_and]
      have S0 := Lib.hid (fun W => within_b k 0 5 W e1)
      have S1 := Lib.hid (fun W => isSpan_b a b 10000 W e2)
      clear e1 e2
      have d1 : (k == 1) = true := by simp; omega
      clear k1
      go_enter Try.func43, Try.ntmps43
      go_upto_region 1 with (fail)
      rw [HWc.out]
      go_wp2_with fail
      refine (S0.out _).mono ?_
      rintro e w1 ⟨rfl, rfl⟩
      go_wp2_with fail
      try (refine (Calls.grown (S1.out _)).mono ?_; rintro e w1 ⟨rfl, z, rfl⟩; go_wp2_with fail)
      go_ret
      exact ⟨rfl, by first | exact HBc.out.gw _ | exact HBc.out⟩
  by_cases k2 : k = 2
  · have hm : mostK k = 10000 := by unfold mostK; rw [if_pos (.inr k2)]
    rw [hm]; clear hm
    cases e1 : inB k 0 5 <;> cases e2 : spanB a b 0 10000
    all_goals
      simp only [Bool.false_and, Bool.true_and]
      have S0 := Lib.hid (fun W => within_b k 0 5 W e1)
      have S1 := Lib.hid (fun W => isSpan_b a b 10000 W e2)
      clear e1 e2
      have d1 : (k == 1) = false := by simp; omega
      have d2 : (k == 2) = true := by simp; omega
      clear k1 k2
      go_enter Try.func43, Try.ntmps43
      go_upto_region 1 with (fail)
      rw [HWc.out]
      go_wp2_with fail
      refine (S0.out _).mono ?_
      rintro e w1 ⟨rfl, rfl⟩
      go_wp2_with fail
      try (refine (Calls.grown (S1.out _)).mono ?_; rintro e w1 ⟨rfl, z, rfl⟩; go_wp2_with fail)
      go_ret
      exact ⟨rfl, by first | exact HBc.out.gw _ | exact HBc.out⟩
  by_cases k3 : k = 3
  · have hm : mostK k = 1048576 := by unfold mostK; rw [if_neg (by omega), if_pos k3]
    rw [hm]; clear hm
    cases e1 : inB k 0 5 <;> cases e2 : spanB a b 0 1048576
    all_goals
      simp only [Bool.false_and, Bool.true_and]
      have S0 := Lib.hid (fun W => within_b k 0 5 W e1)
      have S1 := Lib.hid (fun W => isSpan_b a b 1048576 W e2)
      clear e1 e2
      have d1 : (k == 1) = false := by simp; omega
      have d2 : (k == 2) = false := by simp; omega
      have d3 : (k == 3) = true := by simp; omega
      clear k1 k2 k3
      go_enter Try.func43, Try.ntmps43
      go_upto_region 1 with (fail)
      rw [HWc.out]
      go_wp2_with fail
      refine (S0.out _).mono ?_
      rintro e w1 ⟨rfl, rfl⟩
      go_wp2_with fail
      try (refine (Calls.grown (S1.out _)).mono ?_; rintro e w1 ⟨rfl, z, rfl⟩; go_wp2_with fail)
      go_ret
      exact ⟨rfl, by first | exact HBc.out.gw _ | exact HBc.out⟩
  · have hm : mostK k = 1099511627776 := by unfold mostK; rw [if_neg (by omega), if_neg k3]
    rw [hm]; clear hm
    cases e1 : inB k 0 5 <;> cases e2 : spanB a b 0 1099511627776
    all_goals
      simp only [Bool.false_and, Bool.true_and]
      have S0 := Lib.hid (fun W => within_b k 0 5 W e1)
      have S1 := Lib.hid (fun W => isSpan_b a b 1099511627776 W e2)
      clear e1 e2
      have d1 : (k == 1) = false := by simp; omega
      have d2 : (k == 2) = false := by simp; omega
      have d3 : (k == 3) = false := by simp; omega
      clear k1 k2 k3
      go_enter Try.func43, Try.ntmps43
      go_upto_region 1 with (fail)
      rw [HWc.out]
      go_wp2_with fail
      refine (S0.out _).mono ?_
      rintro e w1 ⟨rfl, rfl⟩
      go_wp2_with fail
      try (refine (Calls.grown (S1.out _)).mono ?_; rintro e w1 ⟨rfl, z, rfl⟩; go_wp2_with fail)
      go_ret
      exact ⟨rfl, by first | exact HBc.out.gw _ | exact HBc.out⟩

/-- what steps returns -/
def stepsV : Value := .agg #[.func (.func 58) #[] #[], .func (.func 61) #[] #[], .func (.func 63) #[] #[], .func (.func 64) #[] #[], .func (.func 65) #[] #[], .func (.func 66) #[] #[]]
set_option maxHeartbeats 1000000 in
theorem steps_any (w : World) :
    Calls Try.prog 44 #[] w fun e w' => e = .returned stepsV ∧ Below w.heap.size w w' := by
  unfold stepsV
  go_enter Try.func44, Try.ntmps44
  go_wp2
  refine bodyPost_ret (v := .agg #[.func (.func 58) #[] #[], .func (.func 61) #[] #[], .func (.func 63) #[] #[], .func (.func 64) #[] #[], .func (.func 65) #[] #[], .func (.func 66) #[] #[]]) (by simp [results, Try.results44, go_sem]) rfl ⟨rfl, ?_⟩
  exact below_alloc w _
theorem index0 (w : World) : (Instr.index 109 stepsV (.int .i64 0)).run Try.prog w = .ok (.func (.func 58) #[] #[]) w := by kernel_rfl
theorem index1 (w : World) : (Instr.index 109 stepsV (.int .i64 1)).run Try.prog w = .ok (.func (.func 61) #[] #[]) w := by kernel_rfl
theorem index2 (w : World) : (Instr.index 109 stepsV (.int .i64 2)).run Try.prog w = .ok (.func (.func 63) #[] #[]) w := by kernel_rfl
theorem index3 (w : World) : (Instr.index 109 stepsV (.int .i64 3)).run Try.prog w = .ok (.func (.func 64) #[] #[]) w := by kernel_rfl
theorem index4 (w : World) : (Instr.index 109 stepsV (.int .i64 4)).run Try.prog w = .ok (.func (.func 65) #[] #[]) w := by kernel_rfl
theorem index5 (w : World) : (Instr.index 109 stepsV (.int .i64 5)).run Try.prog w = .ok (.func (.func 66) #[] #[]) w := by kernel_rfl
end Go.Proofs.Ytfefmgadfklgmaa.L2
