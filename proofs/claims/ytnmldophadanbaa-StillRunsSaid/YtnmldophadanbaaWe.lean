/- Contract of slices.BinarySearch over a rising list. No conditions beyond each theorem's own. -/
import Derived.Test.YtnmldophadanbaaWc
import Derived.Test.YtnmldophadanbaaKd
set_option linter.unusedVariables false
set_option linter.unusedSimpArgs false
set_option linter.unusedSectionVars false
set_option linter.constructorNameAsVariable false
namespace Go.Proofs.Ytnmldophadanbaa
open Go.RowKit

set_option maxHeartbeats 400000 in
theorem less_any (a b : Int) (w : World) :
    Calls Try.prog 75 #[.int .i64 a, .int .i64 b] w fun e w' => e = .returned (.bool (decide (a < b))) ∧ w = w' := by
  have hn : (a != a) = false := by simp
  go_enter Try.func75, Try.ntmps75
  go_wp2
  go_ret
  exact ⟨rfl, rfl⟩
theorem less_b {c : Bool} (a b : Int) (w : World) (h : decide (a < b) = c) :
    Calls Try.prog 75 #[.int .i64 a, .int .i64 b] w fun e w' => e = .returned (.bool c) ∧ w = w' := h ▸ less_any a b w

set_option maxRecDepth 100000 in
set_option maxHeartbeats 1000000 in
theorem search_any (b off n c : Nat) (x : Int) (L : Nat → Int) (w : World) (hn : n ≤ 1000000000000)
    (hc : ∀ i, i < n → w.cell? ⟨b, off + i, none⟩ = some (.int .i64 (L i))) (hmon : ∀ s t, s ≤ t → t < n → L s ≤ L t) :
    Calls Try.prog 74 #[.slice (some ⟨b, off, none⟩) n c, .int .i64 x] w fun e w' => e = .returned (.tuple #[.int .i64 (lb L x n), .bool (foundB L x n)]) ∧ w = w' := by
  have HC := Lib.hid hc; clear hc
  have HM := Lib.hid hmon; clear hmon
  go_enter Try.func74, Try.ntmps74
  go_wp2
  go_loop [7, 8] (fun p q => ∃ i j : Nat, i ≤ j ∧ j ≤ n ∧ p = .int .i64 i ∧ q = .int .i64 j ∧ (∀ t, t < i → L t < x) ∧ (j < n → x ≤ L j)) (fun p q => (intOf q - intOf p).toNat)
  case atStart => exact ⟨0, n, Nat.zero_le _, Nat.le_refl _, rfl, rfl, fun _ h => by omega, fun h => by omega⟩
  case round =>
    obtain ⟨i, j, hij, hjn, rfl, rfl, h1, h2⟩ := hrel
    have K1 := Lib.hid h1; clear h1
    have K2 := Lib.hid h2; clear h2
    by_cases hlt : i < j
    · have cm := HC.out ((i + j) / 2) (by omega)
      cases hx : decide (L ((i + j) / 2) < x) with
      | true =>
        have HX := Lib.hid hx; clear hx
        go_wp2_with (go_at_call 75; refine (less_b _ _ _ HX.out).mono ?_; rintro e w' ⟨rfl, rfl⟩)
        go_round
        case rel => exact ⟨(i + j) / 2 + 1, j, by omega, by omega, by go_num, rfl, fun t ht => Int.lt_of_le_of_lt (HM.out t ((i + j) / 2) (by omega) (by omega)) (of_decide_eq_true HX.out), K2.out⟩
        case measure => simp [intOf]; omega
      | false =>
        have HX := Lib.hid hx; clear hx
        go_wp2_with (go_at_call 75; refine (less_b _ _ _ HX.out).mono ?_; rintro e w' ⟨rfl, rfl⟩)
        go_round
        case rel => exact ⟨i, (i + j) / 2, by omega, by omega, rfl, by go_num, K1.out, fun _ => Int.not_lt.1 (of_decide_eq_false HX.out)⟩
        case measure => simp [intOf]; omega
    · obtain rfl : i = j := by omega
      have HI := Lib.hid (lb_unique hjn K1.out (fun h => Int.not_lt.2 (K2.out h)))
      by_cases hin : i < n
      · have ci := HC.out i hin
        by_cases hx : L i = x
        · have HF := Lib.hid (show foundB L x n = true by unfold foundB; rw [← HI.out]; simp [hin, hx])
          have hx' : ((L i) == x) = true := by simp [hx]
          clear hx
          go_wp2
          go_ret2
          exact ⟨by rw [HF.out, ← HI.out]; rfl, rfl⟩
        · have HF := Lib.hid (show foundB L x n = false by unfold foundB; rw [← HI.out]; simp [hx])
          have hx' : ((L i) == x) = false := by simp [hx]
          have hn1 : ((L i) != (L i)) = false := by simp
          clear hx
          go_wp2
          go_ret2
          exact ⟨by rw [HF.out, ← HI.out]; rfl, rfl⟩
      · have HF := Lib.hid (show foundB L x n = false by unfold foundB; rw [← HI.out]; simp [hin])
        go_wp2
        go_ret2
        exact ⟨by rw [HF.out, ← HI.out]; rfl, rfl⟩
end Go.Proofs.Ytnmldophadanbaa
