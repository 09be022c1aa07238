/- Contract of over. No conditions beyond each theorem's own. -/
import Derived.Test.YtohcopdfdmjhnaaSo
set_option linter.unusedVariables false
set_option linter.unusedSimpArgs false
set_option linter.unusedSectionVars false
set_option linter.constructorNameAsVariable false
namespace Go.Proofs.Ytohcopdfdmjhnaa.L1
open Go.RowKit
open Go.Proofs.Ytohcopdfdmjhnaa

attribute [local go_sem] gw_cell gw_frozen gw_size

theorem over_room {Z d n : Nat} (h : Z ≤ 1099511627776000000 * d) (hd : 1 ≤ d) (hn : d ≤ n) : Z / 18446744073709551616 < n := by
  rw [Nat.div_lt_iff_lt_mul (by decide)]; omega
set_option maxRecDepth 100000 in
set_option maxHeartbeats 1000000 in
theorem over_nat (a n d : Nat) (w : World) (h1 : a ≤ 1099511627776) (hd : 1 ≤ d) (hn : d ≤ n) (hb : n < 9223372036854775808) :
    Calls Try.prog 76 #[.int .i64 a, .agg #[.int .i64 n, .int .i64 d]] w fun e w' =>
      e = .returned (.tuple #[.int .i64 ((a * 1000000 * d / n : Nat) : Int), .bool (decide (a * 1000000 * d % n = 0))]) ∧ Below w.heap.size w w' := by
  obtain ⟨X, hX⟩ : ∃ X : Nat, a * 1000000 = X := ⟨_, rfl⟩
  rw [hX]
  have xb : X ≤ 1099511627776000000 := by omega
  have pb := Nat.mul_le_mul xb (Nat.le_refl d)
  obtain ⟨Z, hZ⟩ : ∃ Z : Nat, X * d = Z := ⟨_, rfl⟩
  have M := Shut.mk (fun w => Any.bits_Mul64 (P := Try.prog) mulL X d (by omega) (by omega) w)
  rw [hZ] at pb ⊢
  have hr := over_room pb hd hn
  obtain ⟨H, hH⟩ : ∃ H : Nat, Z / 18446744073709551616 = H := ⟨_, rfl⟩
  replace hr : H < n := hH ▸ hr
  obtain ⟨L, hL⟩ : ∃ L : Nat, Z % 18446744073709551616 = L := ⟨_, rfl⟩
  have hs : H * 18446744073709551616 + L = Z := by rw [← hH, ← hL, Nat.mul_comm]; exact Nat.div_add_mod Z 18446744073709551616
  have hl : L < 18446744073709551616 := hL ▸ Nat.mod_lt Z (by decide)
  have D := Shut.mk (fun w => Div64_any H L n w hr hl (Nat.lt_trans hb (by decide)))
  simp only [hZ, hH, hL] at M
  simp only [hs] at D
  have qb : Z / n ≤ 1099511627776000000 := by
    refine Nat.le_trans (Nat.div_le_div_right pb) ?_
    refine Nat.le_trans (Nat.div_le_div_left hn (by omega)) ?_
    rw [Nat.mul_div_cancel _ (by omega)]; exact Nat.le_refl _
  have hx : (a : Int) * 1000000 = (X : Int) := by omega
  obtain ⟨Q, hQ⟩ : ∃ Q : Nat, Z / n = Q := ⟨_, rfl⟩
  obtain ⟨R, hR⟩ : ∃ R : Nat, Z % n = R := ⟨_, rfl⟩
  have rb : R < n := by rw [← hR]; exact Nat.mod_lt _ (by omega)
  simp only [hQ, hR] at D
  rw [hQ] at qb ⊢
  rw [hR]
  have er : ((R : Int) == 0) = decide (R = 0) := by
    by_cases h : R = 0
    · subst h; rfl
    · have : ¬ (R : Int) = 0 := by omega
      simp [h, this]
  clear hX pb hZ hH hL hs hQ hR hr hl
  obtain ⟨W1, hW1⟩ : ∃ W1, w.alloc (.cells #[.int .i64 (n : Int), .int .i64 (d : Int)] 78) = W1 := ⟨_, rfl⟩
  have hBc : Below w.heap.size w W1 := by rw [← hW1]; exact below_alloc _ _
  have zc0 : W1.heap[w.heap.size]? = some (.cells #[.int .i64 (n : Int), .int .i64 (d : Int)] 78 (0, 0)) := by rw [← hW1]; exact alloc_at rfl
  have c00 : W1.cell? ⟨w.heap.size, 0, none⟩ = some (.int .i64 (n : Int)) := cell_of_block zc0 0 (by simp)
  have c01 : W1.cell? ⟨w.heap.size, 1, none⟩ = some (.int .i64 (d : Int)) := cell_of_block zc0 1 (by simp)
  have lc0 := (Array.getElem?_eq_some_iff.1 zc0).1
  clear zc0
  have HBc := Lib.hid hBc; clear hBc
  have HWc := Lib.hid hW1; clear hW1
  go_enter Try.func76, Try.ntmps76
  go_upto_region 1 with (fail)
  rw [HWc.out]
  go_wp2_with (refine (M.out _).mono ?_; rintro e w1 ⟨rfl, rfl⟩)
  refine (Calls.grown (D.out _)).mono ?_
  rintro e w2 ⟨rfl, z1, rfl⟩
  go_wp2_with fail
  refine bodyPost_ret (v := .tuple #[.int .i64 (Q : Int), .bool (decide (R = 0))]) (by simp [results, Try.results76, go_sem, *]) rfl ⟨rfl, ?_⟩
  exact HBc.out.gw z1
end Go.Proofs.Ytohcopdfdmjhnaa.L1
