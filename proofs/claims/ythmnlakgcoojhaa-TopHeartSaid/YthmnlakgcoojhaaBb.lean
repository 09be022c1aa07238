/- Contracts of floor, ceiling, down, up. No conditions beyond each theorem's own. -/
import Derived.Test.YthmnlakgcoojhaaBa
set_option linter.unusedVariables false
set_option linter.unusedSimpArgs false
set_option linter.unusedSectionVars false
set_option linter.constructorNameAsVariable false
namespace Go.Proofs.Ythmnlakgcoojhaa
open Go.RowKit

theorem floor_tdiv {a b : Int} (hb : 1 ≤ b) : (a.tmod b < 0 → a.tdiv b - 1 = a / b) ∧ (¬ a.tmod b < 0 → a.tdiv b = a / b) := by
  have e := Int.tmod_add_mul_tdiv a b
  have h1 := Int.tmod_lt_of_pos a (show 0 < b by omega)
  have h2 := Int.lt_tmod_of_pos a (show 0 < b by omega)
  refine ⟨fun h => ?_, fun h => ?_⟩
  · have := ((Int.ediv_emod_unique (a := a) (b := b) (r := a.tmod b + b) (q := a.tdiv b - 1) (by omega)).2 ⟨by rw [Int.mul_sub, Int.mul_one]; omega, by omega, by omega⟩).1
    exact this.symm
  · have := ((Int.ediv_emod_unique (a := a) (b := b) (r := a.tmod b) (q := a.tdiv b) (by omega)).2 ⟨by omega, by omega, by omega⟩).1
    exact this.symm
theorem floor_range {a b N : Int} (hb : 1 ≤ b) (hN : 0 ≤ N) (h1 : -N ≤ a) (h2 : a ≤ N) : -N ≤ a / b ∧ a / b ≤ N := by
  refine ⟨?_, ?_⟩
  · refine (Int.le_ediv_iff_mul_le (by omega)).2 ?_
    have := Int.mul_le_mul_of_nonneg_left hb hN
    rw [Int.neg_mul]; omega
  · have h3 := Int.ediv_mul_le a (show b ≠ 0 by omega)
    by_cases h : a / b ≤ 0
    · omega
    · have := Int.mul_le_mul_of_nonneg_left hb (show 0 ≤ a / b by omega)
      omega
theorem upI_neg {a b : Int} (hb : 1 ≤ b) : -(-a / b) = upI a b := by
  unfold upI
  have e1 := Int.emod_add_mul_ediv (-a) b
  have m1 := Int.emod_nonneg (-a) (show b ≠ 0 by omega)
  have m2 := Int.emod_lt_of_pos (-a) (show 0 < b by omega)
  have := ((Int.ediv_emod_unique (a := a + b - 1) (b := b) (r := b - 1 - (-a) % b) (q := -(-a / b)) (by omega)).2 ⟨by rw [Int.mul_neg]; omega, by omega, by omega⟩).1
  exact this.symm
set_option maxHeartbeats 400000 in
theorem floor_any (a b : Int) (w : World) (ha : -4000000000000000000 ≤ a) (ha2 : a ≤ 4000000000000000000) (hb : 1 ≤ b) :
    Calls Try.prog 46 #[.int .i64 a, .int .i64 b] w fun e w' => e = .returned (.int .i64 (a / b)) ∧ w = w' := by
  have h0 : ¬ b = 0 := by omega
  have hr := floor_range hb (by omega) ha ha2
  have ht := floor_tdiv (a := a) hb
  by_cases h : a.tmod b < 0
  · have e := ht.1 h
    have q0 : -4000000000000000000 ≤ a.tdiv b := by omega
    have q1 : a.tdiv b ≤ 4000000000000000001 := by omega
    have E := Lib.hid e; clear e ht hr
    go_enter Try.func46, Try.ntmps46
    go_wp2
    go_ret
    exact ⟨by rw [← E.out]; rfl, rfl⟩
  · have e := ht.2 h
    have E := Lib.hid e; clear e ht hr
    go_enter Try.func46, Try.ntmps46
    go_wp2
    go_ret
    exact ⟨by rw [← E.out]; rfl, rfl⟩

set_option maxHeartbeats 400000 in
theorem ceil_any (a b : Int) (w : World) (ha : -4000000000000000000 ≤ a) (ha2 : a ≤ 4000000000000000000) (hb : 1 ≤ b) :
    Calls Try.prog 47 #[.int .i64 a, .int .i64 b] w fun e w' => e = .returned (.int .i64 (upI a b)) ∧ w = w' := by
  have hr := floor_range hb (by omega) (a := -a) (by omega : -4000000000000000000 ≤ -a) (by omega)
  have E := Lib.hid (upI_neg (a := a) hb)
  have F := Lib.hid (floor_any (-a) b w (by omega) (by omega) hb)
  obtain ⟨q, hq⟩ : ∃ q, -a / b = q := ⟨_, rfl⟩
  rw [hq] at hr E F
  go_enter Try.func47, Try.ntmps47
  go_wp2_with fail
  refine F.out.mono ?_
  rintro e w1 ⟨rfl, rfl⟩
  go_wp2_with fail
  go_ret
  exact ⟨by rw [← E.out]; rfl, rfl⟩

end Go.Proofs.Ythmnlakgcoojhaa
