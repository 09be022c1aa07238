/- Contracts of the tests of numbers and spans. Contracts of floor, ceiling, down, up. Contracts of plus, times, part, of the program and of the reference. No conditions beyond each theorem's own. -/
import Derived.Test.YtfefmgadfklgmaaProg
import Derived.Test.YtfefmgadfklgmaaAa
import Derived.Test.YtfefmgadfklgmaaAg
import Derived.Lib.Hide
set_option linter.unusedVariables false
set_option linter.unusedSimpArgs false
set_option linter.unusedSectionVars false
set_option linter.constructorNameAsVariable false
namespace Go.Proofs.Ytfefmgadfklgmaa
open Go.RowKit

set_option maxHeartbeats 400000 in
theorem within_any (n lo hi : Int) (w : World) :
    Calls Try.prog 24 #[.int .i64 n, .int .i64 lo, .int .i64 hi] w fun e w' => e = .returned (.bool (inB n lo hi)) ∧ w = w' := by
  by_cases h1 : lo ≤ n
  · by_cases h2 : n ≤ hi
    · have hb : inB n lo hi = true := by simp [inB, h1, h2]
      rw [hb]; clear hb
      go_enter Try.func24, Try.ntmps24
      go_wp2
      go_ret
      exact ⟨rfl, rfl⟩
    · have hb : inB n lo hi = false := by simp [inB, h2]
      rw [hb]; clear hb
      go_enter Try.func24, Try.ntmps24
      go_wp2
      go_ret
      exact ⟨rfl, rfl⟩
  · have hb : inB n lo hi = false := by simp [inB, h1]
    rw [hb]; clear hb
    go_enter Try.func24, Try.ntmps24
    go_wp2
    go_ret
    exact ⟨rfl, rfl⟩

set_option maxHeartbeats 400000 in
theorem sin_any (lo hi low high : Int) (w : World) :
    Calls Try.prog 25 #[.agg #[.int .i64 lo, .int .i64 hi], .int .i64 low, .int .i64 high] w fun e w' => e = .returned (.bool (spanB lo hi low high)) ∧ Below w.heap.size w w' := by
  by_cases h1 : low ≤ lo
  · by_cases h2 : lo ≤ hi
    · by_cases h3 : hi ≤ high
      · have hb : spanB lo hi low high = true := by simp [spanB, h1, h2, h3]
        rw [hb]; clear hb
        go_enter Try.func25, Try.ntmps25
        go_wp2
        go_ret
        exact ⟨rfl, (Below.refl _ _).alloc (Nat.le_refl _) _⟩
      · have hb : spanB lo hi low high = false := by simp [spanB, h3]
        rw [hb]; clear hb
        go_enter Try.func25, Try.ntmps25
        go_wp2
        go_ret
        exact ⟨rfl, (Below.refl _ _).alloc (Nat.le_refl _) _⟩
    · have hb : spanB lo hi low high = false := by simp [spanB, h2]
      rw [hb]; clear hb
      go_enter Try.func25, Try.ntmps25
      go_wp2
      go_ret
      exact ⟨rfl, (Below.refl _ _).alloc (Nat.le_refl _) _⟩
  · have hb : spanB lo hi low high = false := by simp [spanB, h1]
    rw [hb]; clear hb
    go_enter Try.func25, Try.ntmps25
    go_wp2
    go_ret
    exact ⟨rfl, (Below.refl _ _).alloc (Nat.le_refl _) _⟩

theorem within_b {b : Bool} (n lo hi : Int) (w : World) (h : inB n lo hi = b) :
    Calls Try.prog 24 #[.int .i64 n, .int .i64 lo, .int .i64 hi] w fun e w' => e = .returned (.bool b) ∧ w = w' := h ▸ within_any n lo hi w
theorem sin_b {b : Bool} (lo hi low high : Int) (w : World) (h : spanB lo hi low high = b) :
    Calls Try.prog 25 #[.agg #[.int .i64 lo, .int .i64 hi], .int .i64 low, .int .i64 high] w fun e w' => e = .returned (.bool b) ∧ Below w.heap.size w w' := h ▸ sin_any lo hi low high w

set_option maxHeartbeats 400000 in
theorem rin_any (n lo hi : Int) (w : World) :
    Calls Try.prog 14 #[.int .i64 n, .int .i64 lo, .int .i64 hi] w fun e w' => e = .returned (.bool (inB n lo hi)) ∧ w = w' := by
  by_cases h1 : lo ≤ n
  · by_cases h2 : n ≤ hi
    · have hb : inB n lo hi = true := by simp [inB, h1, h2]
      rw [hb]; clear hb
      go_enter Try.func14, Try.ntmps14
      go_wp2
      go_ret
      exact ⟨rfl, rfl⟩
    · have hb : inB n lo hi = false := by simp [inB, h2]
      rw [hb]; clear hb
      go_enter Try.func14, Try.ntmps14
      go_wp2
      go_ret
      exact ⟨rfl, rfl⟩
  · have hb : inB n lo hi = false := by simp [inB, h1]
    rw [hb]; clear hb
    go_enter Try.func14, Try.ntmps14
    go_wp2
    go_ret
    exact ⟨rfl, rfl⟩

set_option maxHeartbeats 400000 in
theorem rwithin_any (lo hi low high : Int) (w : World) :
    Calls Try.prog 15 #[.agg #[.int .i64 lo, .int .i64 hi], .int .i64 low, .int .i64 high] w fun e w' => e = .returned (.bool (spanB lo hi low high)) ∧ Below w.heap.size w w' := by
  by_cases h1 : low ≤ lo
  · by_cases h2 : lo ≤ hi
    · by_cases h3 : hi ≤ high
      · have hb : spanB lo hi low high = true := by simp [spanB, h1, h2, h3]
        rw [hb]; clear hb
        go_enter Try.func15, Try.ntmps15
        go_wp2
        go_ret
        exact ⟨rfl, (Below.refl _ _).alloc (Nat.le_refl _) _⟩
      · have hb : spanB lo hi low high = false := by simp [spanB, h3]
        rw [hb]; clear hb
        go_enter Try.func15, Try.ntmps15
        go_wp2
        go_ret
        exact ⟨rfl, (Below.refl _ _).alloc (Nat.le_refl _) _⟩
    · have hb : spanB lo hi low high = false := by simp [spanB, h2]
      rw [hb]; clear hb
      go_enter Try.func15, Try.ntmps15
      go_wp2
      go_ret
      exact ⟨rfl, (Below.refl _ _).alloc (Nat.le_refl _) _⟩
  · have hb : spanB lo hi low high = false := by simp [spanB, h1]
    rw [hb]; clear hb
    go_enter Try.func15, Try.ntmps15
    go_wp2
    go_ret
    exact ⟨rfl, (Below.refl _ _).alloc (Nat.le_refl _) _⟩

theorem rin_b {b : Bool} (n lo hi : Int) (w : World) (h : inB n lo hi = b) :
    Calls Try.prog 14 #[.int .i64 n, .int .i64 lo, .int .i64 hi] w fun e w' => e = .returned (.bool b) ∧ w = w' := h ▸ rin_any n lo hi w
theorem rwithin_b {b : Bool} (lo hi low high : Int) (w : World) (h : spanB lo hi low high = b) :
    Calls Try.prog 15 #[.agg #[.int .i64 lo, .int .i64 hi], .int .i64 low, .int .i64 high] w fun e w' => e = .returned (.bool b) ∧ Below w.heap.size w w' := h ▸ rwithin_any lo hi low high w

end Go.Proofs.Ytfefmgadfklgmaa

namespace Go.Proofs.Ytfefmgadfklgmaa
open Go.RowKit

theorem floor_tdiv {a b : Int} (hb : 1 ≤ b) : (a.tmod b < 0 → a.tdiv b - 1 = a / b) ∧ (¬ a.tmod b < 0 → a.tdiv b = a / b) := by
  have e := Int.tmod_add_mul_tdiv a b
  have h1 := Int.tmod_lt_of_pos a (show 0 < b by omega)
  have h2 := Int.lt_tmod_of_pos a (show 0 < b by omega)
  refine ⟨fun h => ?_, fun h => ?_⟩
  · have := ((Int.ediv_emod_unique (a := a) (b := b) (r := a.tmod b + b) (q := a.tdiv b - 1) (by omega)).2 ⟨by rw [Int.mul_sub, Int.mul_one]; omega, by omega, by omega⟩).1
    exact this.symm
  · have := ((Int.ediv_emod_unique (a := a) (b := b) (r := a.tmod b) (q := a.tdiv b) (by omega)).2 ⟨by omega, by omega, by omega⟩).1
    exact this.symm
theorem floor_range {a b N : Int} (hb : 1 ≤ b) (hN : 0 ≤ N) (h1 : -N ≤ a) (h2 : a ≤ N) : -N ≤ a / b ∧ a / b ≤ N := by
  refine ⟨?_, ?_⟩
  · refine (Int.le_ediv_iff_mul_le (by omega)).2 ?_
    have := Int.mul_le_mul_of_nonneg_left hb hN
    rw [Int.neg_mul]; omega
  · have h3 := Int.ediv_mul_le a (show b ≠ 0 by omega)
    by_cases h : a / b ≤ 0
    · omega
    · have := Int.mul_le_mul_of_nonneg_left hb (show 0 ≤ a / b by omega)
      omega
theorem upI_neg {a b : Int} (hb : 1 ≤ b) : -(-a / b) = upI a b := by
  unfold upI
  have e1 := Int.emod_add_mul_ediv (-a) b
  have m1 := Int.emod_nonneg (-a) (show b ≠ 0 by omega)
  have m2 := Int.emod_lt_of_pos (-a) (show 0 < b by omega)
  have := ((Int.ediv_emod_unique (a := a + b - 1) (b := b) (r := b - 1 - (-a) % b) (q := -(-a / b)) (by omega)).2 ⟨by rw [Int.mul_neg]; omega, by omega, by omega⟩).1
  exact this.symm
set_option maxHeartbeats 400000 in
theorem floor_any (a b : Int) (w : World) (ha : -4000000000000000000 ≤ a) (ha2 : a ≤ 4000000000000000000) (hb : 1 ≤ b) :
    Calls Try.prog 45 #[.int .i64 a, .int .i64 b] w fun e w' => e = .returned (.int .i64 (a / b)) ∧ w = w' := by
  have h0 : ¬ b = 0 := by omega
  have hr := floor_range hb (by omega) ha ha2
  have ht := floor_tdiv (a := a) hb
  by_cases h : a.tmod b < 0
  · have e := ht.1 h
    have q0 : -4000000000000000000 ≤ a.tdiv b := by omega
    have q1 : a.tdiv b ≤ 4000000000000000001 := by omega
    have E := Lib.hid e; clear e ht hr
    go_enter Try.func45, Try.ntmps45
    go_wp2
    go_ret
    exact ⟨by rw [← E.out]; rfl, rfl⟩
  · have e := ht.2 h
    have E := Lib.hid e; clear e ht hr
    go_enter Try.func45, Try.ntmps45
    go_wp2
    go_ret
    exact ⟨by rw [← E.out]; rfl, rfl⟩

set_option maxHeartbeats 400000 in
theorem ceil_any (a b : Int) (w : World) (ha : -4000000000000000000 ≤ a) (ha2 : a ≤ 4000000000000000000) (hb : 1 ≤ b) :
    Calls Try.prog 46 #[.int .i64 a, .int .i64 b] w fun e w' => e = .returned (.int .i64 (upI a b)) ∧ w = w' := by
  have hr := floor_range hb (by omega) (a := -a) (by omega : -4000000000000000000 ≤ -a) (by omega)
  have E := Lib.hid (upI_neg (a := a) hb)
  have F := Lib.hid (floor_any (-a) b w (by omega) (by omega) hb)
  obtain ⟨q, hq⟩ : ∃ q, -a / b = q := ⟨_, rfl⟩
  rw [hq] at hr E F
  go_enter Try.func46, Try.ntmps46
  go_wp2_with fail
  refine F.out.mono ?_
  rintro e w1 ⟨rfl, rfl⟩
  go_wp2_with fail
  go_ret
  exact ⟨by rw [← E.out]; rfl, rfl⟩

end Go.Proofs.Ytfefmgadfklgmaa

namespace Go.Proofs.Ytfefmgadfklgmaa
open Go.RowKit

attribute [local go_sem] gw_cell gw_frozen gw_size

set_option maxHeartbeats 1000000 in
theorem plus_any (alo ahi tlo thi : Int) (w : World) (h1 : -4000000000000000000 ≤ alo + tlo) (h2 : alo + tlo ≤ 4000000000000000000) (h3 : -4000000000000000000 ≤ ahi + thi) (h4 : ahi + thi ≤ 4000000000000000000) :
    Calls Try.prog 69 #[.agg #[.int .i64 alo, .int .i64 ahi], .agg #[.int .i64 tlo, .int .i64 thi]] w fun e w' => e = .returned (.agg #[.int .i64 (alo + tlo), .int .i64 (ahi + thi)]) ∧ Below w.heap.size w w' := by
  go_enter Try.func69, Try.ntmps69
  go_wp2
  refine bodyPost_ret (v := .agg #[.int .i64 (alo + tlo), .int .i64 (ahi + thi)]) (by simp [results, Try.results69, go_sem]) rfl ⟨rfl, ?_⟩
  exact ((below_alloc w _).alloc (by simp) _).alloc (by simp; omega) _

set_option maxHeartbeats 2000000 in
theorem times_any (alo ahi tlo thi num den : Int) (w : World) (a0 : 0 ≤ alo * tlo) (a1 : alo * tlo ≤ 4000000000000000000) (a2 : 0 ≤ alo * tlo * num) (a3 : alo * tlo * num ≤ 4000000000000000000) (b0 : 0 ≤ ahi * thi) (b1 : ahi * thi ≤ 4000000000000000000) (b2 : 0 ≤ ahi * thi * num) (b3 : ahi * thi * num ≤ 4000000000000000000) (hd : 1 ≤ den) :
    Calls Try.prog 28 #[.agg #[.int .i64 alo, .int .i64 ahi], .agg #[.int .i64 tlo, .int .i64 thi], .int .i64 num, .int .i64 den] w fun e w' => e = .returned (.agg #[.int .i64 (alo * tlo * num / den), .int .i64 (upI (ahi * thi * num) den)]) ∧ Below w.heap.size w w' := by
  have FL := Lib.hid (fun w => floor_any (alo * tlo * num) den w (by omega) a3 hd)
  have CE := Lib.hid (fun w => ceil_any (ahi * thi * num) den w (by omega) b3 hd)
  go_enter Try.func28, Try.ntmps28
  go_wp2
  refine wp_region_gw_tail 19 (by kernel_rfl) (by kernel_rfl) ?_
  simp only [List.take_succ_cons, List.take_zero]
  repeat (go_big_quiet_step (first | (go_at_call 45; exact Calls.gw_of_same (FL.out _)) | (go_at_call 46; exact Calls.gw_of_same (CE.out _))))
  refine wpQuiet_nil ?_
  rintro _ ⟨x, rfl⟩
  simp only [List.drop_succ_cons, List.drop_zero]
  go_wp2
  refine bodyPost_ret (v := .agg #[.int .i64 (alo * tlo * num / den), .int .i64 (upI (ahi * thi * num) den)]) (by simp [results, Try.results28, go_sem]) rfl ⟨rfl, ?_⟩
  exact (((((((Below.refl _ w).alloc (Nat.le_refl _) _).alloc (by simp) _).alloc (by simp; omega) _).gw x).setCell (by simp <;> omega) _).setCell (by simp <;> omega) _)

set_option maxHeartbeats 1000000 in
theorem part_any (alo ahi tlo thi : Int) (w : World) (a0 : 0 ≤ alo * tlo) (a1 : alo * tlo ≤ 4000000000000000000) (b0 : 0 ≤ ahi * thi) (b1 : ahi * thi ≤ 4000000000000000000) :
    Calls Try.prog 26 #[.agg #[.int .i64 alo, .int .i64 ahi], .agg #[.int .i64 tlo, .int .i64 thi]] w fun e w' => e = .returned (.agg #[.int .i64 (alo * tlo / 1000), .int .i64 (upI (ahi * thi) 1000)]) ∧ Below w.heap.size w w' := by
  have T := fun w => times_any alo ahi tlo thi 1 1000 w a0 a1 (by rw [Int.mul_one]; exact a0) (by rw [Int.mul_one]; exact a1) b0 b1 (by rw [Int.mul_one]; exact b0) (by rw [Int.mul_one]; exact b1) (by omega)
  rw [Int.mul_one, Int.mul_one] at T
  have TT := Lib.hid T; clear T
  go_enter Try.func26, Try.ntmps26
  go_wp2_with fail
  refine (Calls.grown (TT.out _)).mono ?_
  rintro e w1 ⟨rfl, z, rfl⟩
  go_wp2_with fail
  refine bodyPost_ret (v := .agg #[.int .i64 (alo * tlo / 1000), .int .i64 (upI (ahi * thi) 1000)]) (by simp [results, Try.results26, go_sem]) rfl ⟨rfl, ?_⟩
  exact (((((((Below.refl _ w).alloc (Nat.le_refl _) _).alloc (by simp) _).alloc (by simp; omega) _).gw z).setCell (by simp <;> omega) _).setCell (by simp <;> omega) _)

end Go.Proofs.Ytfefmgadfklgmaa
