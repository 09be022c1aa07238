/- Contract of the reference's up. No conditions beyond each theorem's own. -/
import Derived.Test.YtohcopdfdmjhnaaSq
import Derived.Test.YtohcopdfdmjhnaaSu
set_option linter.unusedVariables false
set_option linter.unusedSimpArgs false
set_option linter.unusedSectionVars false
set_option linter.constructorNameAsVariable false
namespace Go.Proofs.Ytohcopdfdmjhnaa.L1
open Go.RowKit
open Go.Proofs.Ytohcopdfdmjhnaa

theorem up_far {a b : Int} (h : b ≤ a) (hb : 1 ≤ b) : min 10000 (upI (a * 10000) b) = 10000 := by
  have : 10000 ≤ upI (a * 10000) b := by
    unfold upI
    rw [Int.le_ediv_iff_mul_le (by omega)]
    omega
  omega
theorem up_of {a b q r : Int} (hb : 1 ≤ b) (h : q * b + r = a * 10000) (r0 : 0 ≤ r) (r1 : r < b) : upI (a * 10000) b = if 0 < r then q + 1 else q := by
  have e := cei_flr ⟨a * 10000, b⟩ hb
  have f1 : a * 10000 / b = q := by rw [← h, Int.add_comm, Int.add_mul_ediv_right _ _ (by omega), Int.ediv_eq_zero_of_lt r0 r1]; omega
  have f2 : a * 10000 % b = r := by rw [← h, Int.add_comm, Int.add_mul_emod_self_right]; exact Int.emod_eq_of_lt r0 r1
  have e2 : upI (a * 10000) b = if a * 10000 % b = 0 then a * 10000 / b else a * 10000 / b + 1 := e
  rw [e2, f1, f2]
  by_cases hr : r = 0
  · rw [if_pos hr, if_neg (by omega)]
  · rw [if_neg hr, if_pos (by omega)]
def rung (i p : Int) : Prop := (i = 0 ∧ p = 1) ∨ (i = 1 ∧ p = 10) ∨ (i = 2 ∧ p = 100) ∨ (i = 3 ∧ p = 1000) ∨ (i = 4 ∧ p = 10000)
theorem digit_step {a b q r p : Int} (h : q * b + r = a * p) : (10 * q + r * 10 / b) * b + r * 10 % b = a * (10 * p) := by
  have e := Int.emod_add_mul_ediv (r * 10) b
  have e2 : a * (10 * p) = 10 * (a * p) := by grind
  rw [e2, ← h, Int.add_mul]
  have e3 : r * 10 / b * b = b * (r * 10 / b) := Int.mul_comm _ _
  have e4 : 10 * q * b = 10 * (q * b) := Int.mul_assoc _ _ _
  omega

set_option maxRecDepth 100000 in
set_option maxHeartbeats 2000000 in
theorem rup_any (a b : Int) (w : World) (a0 : 0 ≤ a) (b0 : 1 ≤ b) (b1 : b ≤ 100000000000000000) :
    Calls Try.prog 79 #[.int .i64 a, .int .i64 b] w fun e w' => e = .returned (.int .i64 (min 10000 (upI (a * 10000) b))) ∧ Below w.heap.size w w' := by
  by_cases h : b ≤ a
  · rw [up_far h b0]
    go_enter Try.func79, Try.ntmps79
    go_wp2_with fail
    go_ret
    exact ⟨rfl, Below.refl _ _⟩
  · have UO := Shut.mk (fun q r (h : q * b + r = a * 10000) (r0 : 0 ≤ r) (r1 : r < b) => up_of b0 h r0 r1)
    obtain ⟨V, hV⟩ : ∃ V, upI (a * 10000) b = V := ⟨_, rfl⟩
    rw [hV] at UO ⊢
    clear hV
    go_enter Try.func79, Try.ntmps79
    go_wp2_with fail
    go_loop [5, 6, 7] (fun x y z => ∃ q r i p : Int, x = .int .i64 q ∧ y = .int .i64 r ∧ z = .int .i64 i ∧ 0 ≤ r ∧ r < b ∧ 0 ≤ q ∧ q ≤ p - 1 ∧ rung i p ∧ Shut (q * b + r = a * p)) (fun _ _ z => (4 - intOf z).toNat)
    case atStart => exact ⟨0, a, 0, 1, rfl, rfl, rfl, a0, by omega, by omega, by omega, .inl ⟨rfl, rfl⟩, Shut.mk (by omega)⟩
    case round =>
      obtain ⟨q, r, i, p, rfl, rfl, rfl, r0, r1, q0, q1, g, K⟩ := hrel
      have gi : 0 ≤ i ∧ i ≤ 4 ∧ 1 ≤ p ∧ p ≤ 10000 := by unfold rung at g; omega
      by_cases c : i < 4
      · have gp : p ≤ 1000 ∧ rung (i + 1) (10 * p) := by unfold rung at g ⊢; omega
        have K2 := Shut.mk (digit_step K.out)
        obtain ⟨D, hD⟩ : ∃ D, r * 10 / b = D := ⟨_, rfl⟩
        obtain ⟨R, hR⟩ : ∃ R, r * 10 % b = R := ⟨_, rfl⟩
        have d0 : 0 ≤ D := by rw [← hD]; exact Int.ediv_nonneg (by omega) (by omega)
        have d1 : D ≤ 9 := by
          have : D < 10 := by rw [← hD, Int.ediv_lt_iff_lt_mul (by omega)]; omega
          omega
        have s0 : 0 ≤ R := by rw [← hR]; exact Int.emod_nonneg _ (by omega)
        have s1 : R < b := by rw [← hR]; exact Int.emod_lt_of_pos _ (by omega)
        have hw : IntKind.i64.wrap (r * 10 / b) = D := by rw [hD, IntKind.wrap_i64]; omega
        rw [hD, hR] at K2
        have G := Shut.mk gp.2
        have gp1 := gp.1
        have nb : ¬ b = 0 := by omega
        clear gp g K
        go_wp2_with fail
        go_round
        case rel => exact ⟨10 * q + D, R, i + 1, 10 * p, by go_num, by go_num, by go_num, s0, s1, by omega, by omega, G.out, K2⟩
        case measure => simp [intOf]; omega
      · have e4 : i = 4 := by omega
        have ep : p = 10000 := by unfold rung at g; omega
        subst e4 ep
        have U := Shut.mk (UO.out q r K.out r0 r1)
        clear g UO K
        by_cases hr : 0 < r
        · have U2 := Shut.mk (show V = q + 1 by rw [U.out, if_pos hr])
          go_wp2_with fail
          go_ret
          exact ⟨by rw [U2.out]; rfl, Below.refl _ _⟩
        · have U2 := Shut.mk (show V = q by rw [U.out, if_neg hr])
          go_wp2_with fail
          go_ret
          exact ⟨by rw [U2.out]; rfl, Below.refl _ _⟩
end Go.Proofs.Ytohcopdfdmjhnaa.L1
