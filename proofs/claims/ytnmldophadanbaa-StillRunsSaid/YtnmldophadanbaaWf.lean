/- Contract of still.line, at both ends of a span. No conditions beyond each theorem's own. -/
import Derived.Test.YtnmldophadanbaaWe
set_option linter.unusedVariables false
set_option linter.unusedSimpArgs false
set_option linter.unusedSectionVars false
set_option linter.constructorNameAsVariable false
namespace Go.Proofs.Ytnmldophadanbaa
open Go.RowKit

attribute [local go_sem] gw_cell gw_frozen gw_size

set_option maxRecDepth 100000 in
set_option maxHeartbeats 1000000 in
theorem line_lo_in (bc b off bv offv n cL cV : Nat) (x : Int) (L A B : Nat → Int) (w : World) (g : Good n L A B) (h0 : 0 ≤ x) (h1 : x ≤ 10000)
    (hbc : bc < w.heap.size) (hbl : b < w.heap.size) (hbv : bv < w.heap.size)
    (cs0 : w.cell? ⟨bc, 0, none⟩ = some (.slice (some ⟨b, off, none⟩) n cL)) (cs1 : w.cell? ⟨bc, 1, none⟩ = some (.slice (some ⟨bv, offv, none⟩) n cV))
    (hc : ∀ i, i < n → w.cell? ⟨b, off + i, none⟩ = some (.int .i64 (L i)))
    (hcv : ∀ i, i < n → w.cell? ⟨bv, offv + i * 2, none⟩ = some (.int .i64 (A i)) ∧ w.cell? ⟨bv, offv + i * 2 + 1, none⟩ = some (.int .i64 (B i)))
    (i k : Nat) (HI : Hid (segI L n x = i)) (HK : Hid (lb L x n = k)) (HF : Hid (foundB L x n = true)) (h2 : i ≤ k ∧ k ≤ i) (_h3 : k ≤ n - 2) :
    Calls Try.prog 70 #[.pointer (some ⟨bc, 0, none⟩), .int .i64 x, .func (.func 71) #[] #[]] w fun e w' => e = .returned (.tuple #[.int .i64 (lineNum L A n x), .int .i64 (lineDen L n x)]) ∧ Below w.heap.size w w' := by
  have hn2 := g.two
  have hn3 := g.most
  have HC := Lib.hid hc
  have HM := Lib.hid g.mono
  obtain ⟨s1, s2, s3⟩ := g.seg h0 h1
  have r1 := g.range i (by rw [← HI.out]; omega)
  have r2 := g.range (i + 1) (by rw [← HI.out]; omega)
  rw [HI.out] at s1 s2 s3
  have c1 := hc i (by omega)
  have c2 := hc (i + 1) s1
  have v1 := hcv i (by omega)
  have v2 := hcv (i + 1) s1
  obtain ⟨v1a, v1b⟩ := v1
  obtain ⟨v2a, v2b⟩ := v2
  have HD := Lib.hid (show lineDen L n x = L (i + 1) - L i by unfold lineDen; rw [HI.out])
  have HN := Lib.hid (show lineNum L A n x = A i * (L (i + 1) - L i) + (A (i + 1) - A i) * (x - L i) by unfold lineNum lineDen; rw [HI.out])
  have m1 : 0 ≤ A i * (L (i + 1) - L i) := Int.mul_nonneg (by omega) (by omega)
  have m2 : A i * (L (i + 1) - L i) ≤ 10000 * 10000 := Int.mul_le_mul (by omega) (by omega) (by omega) (by omega)
  have m3 : (A (i + 1) - A i) * (x - L i) ≤ 10000 * 10000 := by
    have e1 : (A (i + 1) - A i) * (x - L i) ≤ 10000 * (x - L i) := Int.mul_le_mul_of_nonneg_right (by omega) (by omega)
    have e2 : 10000 * (x - L i) ≤ 10000 * 10000 := by omega
    omega
  have m4 : -(10000 * 10000) ≤ (A (i + 1) - A i) * (x - L i) := by
    have e1 : (-10000) * (x - L i) ≤ (A (i + 1) - A i) * (x - L i) := Int.mul_le_mul_of_nonneg_right (by omega) (by omega)
    omega
  clear hc hcv g
  go_enter Try.func70, Try.ntmps70
  go_wp2_with (go_at_call 74; refine (search_any _ _ _ _ _ L _ (by omega) HC.out HM.out).mono ?_; rw [HK.out, HF.out]; rintro e w' ⟨rfl, rfl⟩)
  rw [show (k : Int) = (i : Int) from by omega]
  have hi1 : ((i : Int) + 1).toNat = i + 1 := by omega
  refine wp_region_gw (by kernel_rfl) (by kernel_rfl) ?_
  repeat (go_big_quiet_step (((go_at_call 71; exact Calls.gw_of (lo_any _ _ _)))))
  refine wpQuiet_nil ?_
  rintro _ ⟨y, rfl⟩
  go_wp2
  refine wp_region_gw2 (by kernel_rfl) (by kernel_rfl) ?_
  repeat (go_big_quiet_step ((fail)))
  refine wpQuiet_nil ?_
  rintro _ ⟨z, rfl⟩
  go_wp2
  go_ret2
  exact ⟨by rw [HN.out, HD.out]; rfl, below_gw w z⟩

set_option maxRecDepth 100000 in
set_option maxHeartbeats 1000000 in
theorem line_lo_end (bc b off bv offv n cL cV : Nat) (x : Int) (L A B : Nat → Int) (w : World) (g : Good n L A B) (h0 : 0 ≤ x) (h1 : x ≤ 10000)
    (hbc : bc < w.heap.size) (hbl : b < w.heap.size) (hbv : bv < w.heap.size)
    (cs0 : w.cell? ⟨bc, 0, none⟩ = some (.slice (some ⟨b, off, none⟩) n cL)) (cs1 : w.cell? ⟨bc, 1, none⟩ = some (.slice (some ⟨bv, offv, none⟩) n cV))
    (hc : ∀ i, i < n → w.cell? ⟨b, off + i, none⟩ = some (.int .i64 (L i)))
    (hcv : ∀ i, i < n → w.cell? ⟨bv, offv + i * 2, none⟩ = some (.int .i64 (A i)) ∧ w.cell? ⟨bv, offv + i * 2 + 1, none⟩ = some (.int .i64 (B i)))
    (i k : Nat) (HI : Hid (segI L n x = i)) (HK : Hid (lb L x n = k)) (HF : Hid (foundB L x n = true)) (h2 : i ≤ n - 2 ∧ n - 2 ≤ i) (_h3 : k = n - 1) :
    Calls Try.prog 70 #[.pointer (some ⟨bc, 0, none⟩), .int .i64 x, .func (.func 71) #[] #[]] w fun e w' => e = .returned (.tuple #[.int .i64 (lineNum L A n x), .int .i64 (lineDen L n x)]) ∧ Below w.heap.size w w' := by
  have hn2 := g.two
  have hn3 := g.most
  have HC := Lib.hid hc
  have HM := Lib.hid g.mono
  obtain ⟨s1, s2, s3⟩ := g.seg h0 h1
  have r1 := g.range i (by rw [← HI.out]; omega)
  have r2 := g.range (i + 1) (by rw [← HI.out]; omega)
  rw [HI.out] at s1 s2 s3
  have c1 := hc i (by omega)
  have c2 := hc (i + 1) s1
  have v1 := hcv i (by omega)
  have v2 := hcv (i + 1) s1
  obtain ⟨v1a, v1b⟩ := v1
  obtain ⟨v2a, v2b⟩ := v2
  have HD := Lib.hid (show lineDen L n x = L (i + 1) - L i by unfold lineDen; rw [HI.out])
  have HN := Lib.hid (show lineNum L A n x = A i * (L (i + 1) - L i) + (A (i + 1) - A i) * (x - L i) by unfold lineNum lineDen; rw [HI.out])
  have m1 : 0 ≤ A i * (L (i + 1) - L i) := Int.mul_nonneg (by omega) (by omega)
  have m2 : A i * (L (i + 1) - L i) ≤ 10000 * 10000 := Int.mul_le_mul (by omega) (by omega) (by omega) (by omega)
  have m3 : (A (i + 1) - A i) * (x - L i) ≤ 10000 * 10000 := by
    have e1 : (A (i + 1) - A i) * (x - L i) ≤ 10000 * (x - L i) := Int.mul_le_mul_of_nonneg_right (by omega) (by omega)
    have e2 : 10000 * (x - L i) ≤ 10000 * 10000 := by omega
    omega
  have m4 : -(10000 * 10000) ≤ (A (i + 1) - A i) * (x - L i) := by
    have e1 : (-10000) * (x - L i) ≤ (A (i + 1) - A i) * (x - L i) := Int.mul_le_mul_of_nonneg_right (by omega) (by omega)
    omega
  clear hc hcv g
  go_enter Try.func70, Try.ntmps70
  go_wp2_with (go_at_call 74; refine (search_any _ _ _ _ _ L _ (by omega) HC.out HM.out).mono ?_; rw [HK.out, HF.out]; rintro e w' ⟨rfl, rfl⟩)
  rw [show ((n : Int) - 2) = (i : Int) from by omega]
  have hi1 : ((i : Int) + 1).toNat = i + 1 := by omega
  refine wp_region_gw (by kernel_rfl) (by kernel_rfl) ?_
  repeat (go_big_quiet_step (((go_at_call 71; exact Calls.gw_of (lo_any _ _ _)))))
  refine wpQuiet_nil ?_
  rintro _ ⟨y, rfl⟩
  go_wp2
  refine wp_region_gw2 (by kernel_rfl) (by kernel_rfl) ?_
  repeat (go_big_quiet_step ((fail)))
  refine wpQuiet_nil ?_
  rintro _ ⟨z, rfl⟩
  go_wp2
  go_ret2
  exact ⟨by rw [HN.out, HD.out]; rfl, below_gw w z⟩

set_option maxRecDepth 100000 in
set_option maxHeartbeats 1000000 in
theorem line_lo_off (bc b off bv offv n cL cV : Nat) (x : Int) (L A B : Nat → Int) (w : World) (g : Good n L A B) (h0 : 0 ≤ x) (h1 : x ≤ 10000)
    (hbc : bc < w.heap.size) (hbl : b < w.heap.size) (hbv : bv < w.heap.size)
    (cs0 : w.cell? ⟨bc, 0, none⟩ = some (.slice (some ⟨b, off, none⟩) n cL)) (cs1 : w.cell? ⟨bc, 1, none⟩ = some (.slice (some ⟨bv, offv, none⟩) n cV))
    (hc : ∀ i, i < n → w.cell? ⟨b, off + i, none⟩ = some (.int .i64 (L i)))
    (hcv : ∀ i, i < n → w.cell? ⟨bv, offv + i * 2, none⟩ = some (.int .i64 (A i)) ∧ w.cell? ⟨bv, offv + i * 2 + 1, none⟩ = some (.int .i64 (B i)))
    (i k : Nat) (HI : Hid (segI L n x = i)) (HK : Hid (lb L x n = k)) (HF : Hid (foundB L x n = false)) (h2 : i ≤ k - 1 ∧ k - 1 ≤ i) (_h3 : 1 ≤ k ∧ k ≤ n - 1) :
    Calls Try.prog 70 #[.pointer (some ⟨bc, 0, none⟩), .int .i64 x, .func (.func 71) #[] #[]] w fun e w' => e = .returned (.tuple #[.int .i64 (lineNum L A n x), .int .i64 (lineDen L n x)]) ∧ Below w.heap.size w w' := by
  have hn2 := g.two
  have hn3 := g.most
  have HC := Lib.hid hc
  have HM := Lib.hid g.mono
  obtain ⟨s1, s2, s3⟩ := g.seg h0 h1
  have r1 := g.range i (by rw [← HI.out]; omega)
  have r2 := g.range (i + 1) (by rw [← HI.out]; omega)
  rw [HI.out] at s1 s2 s3
  have c1 := hc i (by omega)
  have c2 := hc (i + 1) s1
  have v1 := hcv i (by omega)
  have v2 := hcv (i + 1) s1
  obtain ⟨v1a, v1b⟩ := v1
  obtain ⟨v2a, v2b⟩ := v2
  have HD := Lib.hid (show lineDen L n x = L (i + 1) - L i by unfold lineDen; rw [HI.out])
  have HN := Lib.hid (show lineNum L A n x = A i * (L (i + 1) - L i) + (A (i + 1) - A i) * (x - L i) by unfold lineNum lineDen; rw [HI.out])
  have m1 : 0 ≤ A i * (L (i + 1) - L i) := Int.mul_nonneg (by omega) (by omega)
  have m2 : A i * (L (i + 1) - L i) ≤ 10000 * 10000 := Int.mul_le_mul (by omega) (by omega) (by omega) (by omega)
  have m3 : (A (i + 1) - A i) * (x - L i) ≤ 10000 * 10000 := by
    have e1 : (A (i + 1) - A i) * (x - L i) ≤ 10000 * (x - L i) := Int.mul_le_mul_of_nonneg_right (by omega) (by omega)
    have e2 : 10000 * (x - L i) ≤ 10000 * 10000 := by omega
    omega
  have m4 : -(10000 * 10000) ≤ (A (i + 1) - A i) * (x - L i) := by
    have e1 : (-10000) * (x - L i) ≤ (A (i + 1) - A i) * (x - L i) := Int.mul_le_mul_of_nonneg_right (by omega) (by omega)
    omega
  clear hc hcv g
  go_enter Try.func70, Try.ntmps70
  go_wp2_with (go_at_call 74; refine (search_any _ _ _ _ _ L _ (by omega) HC.out HM.out).mono ?_; rw [HK.out, HF.out]; rintro e w' ⟨rfl, rfl⟩)
  rw [show ((k : Int) - 1) = (i : Int) from by omega]
  have hi1 : ((i : Int) + 1).toNat = i + 1 := by omega
  refine wp_region_gw (by kernel_rfl) (by kernel_rfl) ?_
  repeat (go_big_quiet_step (((go_at_call 71; exact Calls.gw_of (lo_any _ _ _)))))
  refine wpQuiet_nil ?_
  rintro _ ⟨y, rfl⟩
  go_wp2
  refine wp_region_gw2 (by kernel_rfl) (by kernel_rfl) ?_
  repeat (go_big_quiet_step ((fail)))
  refine wpQuiet_nil ?_
  rintro _ ⟨z, rfl⟩
  go_wp2
  go_ret2
  exact ⟨by rw [HN.out, HD.out]; rfl, below_gw w z⟩

theorem line_lo (bc b off bv offv n cL cV : Nat) (x : Int) (L A B : Nat → Int) (w : World) (g : Good n L A B) (h0 : 0 ≤ x) (h1 : x ≤ 10000)
    (hbc : bc < w.heap.size) (hbl : b < w.heap.size) (hbv : bv < w.heap.size)
    (cs0 : w.cell? ⟨bc, 0, none⟩ = some (.slice (some ⟨b, off, none⟩) n cL)) (cs1 : w.cell? ⟨bc, 1, none⟩ = some (.slice (some ⟨bv, offv, none⟩) n cV))
    (hc : ∀ i, i < n → w.cell? ⟨b, off + i, none⟩ = some (.int .i64 (L i)))
    (hcv : ∀ i, i < n → w.cell? ⟨bv, offv + i * 2, none⟩ = some (.int .i64 (A i)) ∧ w.cell? ⟨bv, offv + i * 2 + 1, none⟩ = some (.int .i64 (B i))) :
    Calls Try.prog 70 #[.pointer (some ⟨bc, 0, none⟩), .int .i64 x, .func (.func 71) #[] #[]] w fun e w' => e = .returned (.tuple #[.int .i64 (lineNum L A n x), .int .i64 (lineDen L n x)]) ∧ Below w.heap.size w w' := by
  have hn2 := g.two
  cases hf : foundB L x n with
  | true =>
    obtain ⟨a, _⟩ := g.found_le hf
    by_cases c : lb L x n ≤ n - 2
    · have e : segI L n x = lb L x n := by unfold segI; rw [hf, if_pos rfl, Nat.min_eq_left c]
      exact line_lo_in bc b off bv offv n cL cV x L A B w g h0 h1 hbc hbl hbv cs0 cs1 hc hcv _ _ (Lib.hid e) (Lib.hid rfl) (Lib.hid hf) ⟨Nat.le_refl _, Nat.le_refl _⟩ c
    · have e : segI L n x = n - 2 := by unfold segI; rw [hf, if_pos rfl, Nat.min_eq_right (by omega)]
      exact line_lo_end bc b off bv offv n cL cV x L A B w g h0 h1 hbc hbl hbv cs0 cs1 hc hcv _ _ (Lib.hid e) (Lib.hid rfl) (Lib.hid hf) ⟨Nat.le_refl _, Nat.le_refl _⟩ (by omega)
  | false =>
    obtain ⟨a, b', _, _⟩ := g.lost h0 h1 hf
    have e : segI L n x = lb L x n - 1 := by unfold segI; rw [hf, if_neg (by simp), Nat.min_eq_left (by omega)]
    exact line_lo_off bc b off bv offv n cL cV x L A B w g h0 h1 hbc hbl hbv cs0 cs1 hc hcv _ _ (Lib.hid e) (Lib.hid rfl) (Lib.hid hf) ⟨Nat.le_refl _, Nat.le_refl _⟩ ⟨a, b'⟩

set_option maxRecDepth 100000 in
set_option maxHeartbeats 1000000 in
theorem line_hi_in (bc b off bv offv n cL cV : Nat) (x : Int) (L A B : Nat → Int) (w : World) (g : Good n L A B) (h0 : 0 ≤ x) (h1 : x ≤ 10000)
    (hbc : bc < w.heap.size) (hbl : b < w.heap.size) (hbv : bv < w.heap.size)
    (cs0 : w.cell? ⟨bc, 0, none⟩ = some (.slice (some ⟨b, off, none⟩) n cL)) (cs1 : w.cell? ⟨bc, 1, none⟩ = some (.slice (some ⟨bv, offv, none⟩) n cV))
    (hc : ∀ i, i < n → w.cell? ⟨b, off + i, none⟩ = some (.int .i64 (L i)))
    (hcv : ∀ i, i < n → w.cell? ⟨bv, offv + i * 2, none⟩ = some (.int .i64 (A i)) ∧ w.cell? ⟨bv, offv + i * 2 + 1, none⟩ = some (.int .i64 (B i)))
    (i k : Nat) (HI : Hid (segI L n x = i)) (HK : Hid (lb L x n = k)) (HF : Hid (foundB L x n = true)) (h2 : i ≤ k ∧ k ≤ i) (_h3 : k ≤ n - 2) :
    Calls Try.prog 70 #[.pointer (some ⟨bc, 0, none⟩), .int .i64 x, .func (.func 72) #[] #[]] w fun e w' => e = .returned (.tuple #[.int .i64 (lineNum L B n x), .int .i64 (lineDen L n x)]) ∧ Below w.heap.size w w' := by
  have hn2 := g.two
  have hn3 := g.most
  have HC := Lib.hid hc
  have HM := Lib.hid g.mono
  obtain ⟨s1, s2, s3⟩ := g.seg h0 h1
  have r1 := g.range i (by rw [← HI.out]; omega)
  have r2 := g.range (i + 1) (by rw [← HI.out]; omega)
  rw [HI.out] at s1 s2 s3
  have c1 := hc i (by omega)
  have c2 := hc (i + 1) s1
  have v1 := hcv i (by omega)
  have v2 := hcv (i + 1) s1
  obtain ⟨v1a, v1b⟩ := v1
  obtain ⟨v2a, v2b⟩ := v2
  have HD := Lib.hid (show lineDen L n x = L (i + 1) - L i by unfold lineDen; rw [HI.out])
  have HN := Lib.hid (show lineNum L B n x = B i * (L (i + 1) - L i) + (B (i + 1) - B i) * (x - L i) by unfold lineNum lineDen; rw [HI.out])
  have m1 : 0 ≤ B i * (L (i + 1) - L i) := Int.mul_nonneg (by omega) (by omega)
  have m2 : B i * (L (i + 1) - L i) ≤ 10000 * 10000 := Int.mul_le_mul (by omega) (by omega) (by omega) (by omega)
  have m3 : (B (i + 1) - B i) * (x - L i) ≤ 10000 * 10000 := by
    have e1 : (B (i + 1) - B i) * (x - L i) ≤ 10000 * (x - L i) := Int.mul_le_mul_of_nonneg_right (by omega) (by omega)
    have e2 : 10000 * (x - L i) ≤ 10000 * 10000 := by omega
    omega
  have m4 : -(10000 * 10000) ≤ (B (i + 1) - B i) * (x - L i) := by
    have e1 : (-10000) * (x - L i) ≤ (B (i + 1) - B i) * (x - L i) := Int.mul_le_mul_of_nonneg_right (by omega) (by omega)
    omega
  clear hc hcv g
  go_enter Try.func70, Try.ntmps70
  go_wp2_with (go_at_call 74; refine (search_any _ _ _ _ _ L _ (by omega) HC.out HM.out).mono ?_; rw [HK.out, HF.out]; rintro e w' ⟨rfl, rfl⟩)
  rw [show (k : Int) = (i : Int) from by omega]
  have hi1 : ((i : Int) + 1).toNat = i + 1 := by omega
  refine wp_region_gw (by kernel_rfl) (by kernel_rfl) ?_
  repeat (go_big_quiet_step (((go_at_call 72; exact Calls.gw_of (hi_any _ _ _)))))
  refine wpQuiet_nil ?_
  rintro _ ⟨y, rfl⟩
  go_wp2
  refine wp_region_gw2 (by kernel_rfl) (by kernel_rfl) ?_
  repeat (go_big_quiet_step ((fail)))
  refine wpQuiet_nil ?_
  rintro _ ⟨z, rfl⟩
  go_wp2
  go_ret2
  exact ⟨by rw [HN.out, HD.out]; rfl, below_gw w z⟩

set_option maxRecDepth 100000 in
set_option maxHeartbeats 1000000 in
theorem line_hi_end (bc b off bv offv n cL cV : Nat) (x : Int) (L A B : Nat → Int) (w : World) (g : Good n L A B) (h0 : 0 ≤ x) (h1 : x ≤ 10000)
    (hbc : bc < w.heap.size) (hbl : b < w.heap.size) (hbv : bv < w.heap.size)
    (cs0 : w.cell? ⟨bc, 0, none⟩ = some (.slice (some ⟨b, off, none⟩) n cL)) (cs1 : w.cell? ⟨bc, 1, none⟩ = some (.slice (some ⟨bv, offv, none⟩) n cV))
    (hc : ∀ i, i < n → w.cell? ⟨b, off + i, none⟩ = some (.int .i64 (L i)))
    (hcv : ∀ i, i < n → w.cell? ⟨bv, offv + i * 2, none⟩ = some (.int .i64 (A i)) ∧ w.cell? ⟨bv, offv + i * 2 + 1, none⟩ = some (.int .i64 (B i)))
    (i k : Nat) (HI : Hid (segI L n x = i)) (HK : Hid (lb L x n = k)) (HF : Hid (foundB L x n = true)) (h2 : i ≤ n - 2 ∧ n - 2 ≤ i) (_h3 : k = n - 1) :
    Calls Try.prog 70 #[.pointer (some ⟨bc, 0, none⟩), .int .i64 x, .func (.func 72) #[] #[]] w fun e w' => e = .returned (.tuple #[.int .i64 (lineNum L B n x), .int .i64 (lineDen L n x)]) ∧ Below w.heap.size w w' := by
  have hn2 := g.two
  have hn3 := g.most
  have HC := Lib.hid hc
  have HM := Lib.hid g.mono
  obtain ⟨s1, s2, s3⟩ := g.seg h0 h1
  have r1 := g.range i (by rw [← HI.out]; omega)
  have r2 := g.range (i + 1) (by rw [← HI.out]; omega)
  rw [HI.out] at s1 s2 s3
  have c1 := hc i (by omega)
  have c2 := hc (i + 1) s1
  have v1 := hcv i (by omega)
  have v2 := hcv (i + 1) s1
  obtain ⟨v1a, v1b⟩ := v1
  obtain ⟨v2a, v2b⟩ := v2
  have HD := Lib.hid (show lineDen L n x = L (i + 1) - L i by unfold lineDen; rw [HI.out])
  have HN := Lib.hid (show lineNum L B n x = B i * (L (i + 1) - L i) + (B (i + 1) - B i) * (x - L i) by unfold lineNum lineDen; rw [HI.out])
  have m1 : 0 ≤ B i * (L (i + 1) - L i) := Int.mul_nonneg (by omega) (by omega)
  have m2 : B i * (L (i + 1) - L i) ≤ 10000 * 10000 := Int.mul_le_mul (by omega) (by omega) (by omega) (by omega)
  have m3 : (B (i + 1) - B i) * (x - L i) ≤ 10000 * 10000 := by
    have e1 : (B (i + 1) - B i) * (x - L i) ≤ 10000 * (x - L i) := Int.mul_le_mul_of_nonneg_right (by omega) (by omega)
    have e2 : 10000 * (x - L i) ≤ 10000 * 10000 := by omega
    omega
  have m4 : -(10000 * 10000) ≤ (B (i + 1) - B i) * (x - L i) := by
    have e1 : (-10000) * (x - L i) ≤ (B (i + 1) - B i) * (x - L i) := Int.mul_le_mul_of_nonneg_right (by omega) (by omega)
    omega
  clear hc hcv g
  go_enter Try.func70, Try.ntmps70
  go_wp2_with (go_at_call 74; refine (search_any _ _ _ _ _ L _ (by omega) HC.out HM.out).mono ?_; rw [HK.out, HF.out]; rintro e w' ⟨rfl, rfl⟩)
  rw [show ((n : Int) - 2) = (i : Int) from by omega]
  have hi1 : ((i : Int) + 1).toNat = i + 1 := by omega
  refine wp_region_gw (by kernel_rfl) (by kernel_rfl) ?_
  repeat (go_big_quiet_step (((go_at_call 72; exact Calls.gw_of (hi_any _ _ _)))))
  refine wpQuiet_nil ?_
  rintro _ ⟨y, rfl⟩
  go_wp2
  refine wp_region_gw2 (by kernel_rfl) (by kernel_rfl) ?_
  repeat (go_big_quiet_step ((fail)))
  refine wpQuiet_nil ?_
  rintro _ ⟨z, rfl⟩
  go_wp2
  go_ret2
  exact ⟨by rw [HN.out, HD.out]; rfl, below_gw w z⟩

set_option maxRecDepth 100000 in
set_option maxHeartbeats 1000000 in
theorem line_hi_off (bc b off bv offv n cL cV : Nat) (x : Int) (L A B : Nat → Int) (w : World) (g : Good n L A B) (h0 : 0 ≤ x) (h1 : x ≤ 10000)
    (hbc : bc < w.heap.size) (hbl : b < w.heap.size) (hbv : bv < w.heap.size)
    (cs0 : w.cell? ⟨bc, 0, none⟩ = some (.slice (some ⟨b, off, none⟩) n cL)) (cs1 : w.cell? ⟨bc, 1, none⟩ = some (.slice (some ⟨bv, offv, none⟩) n cV))
    (hc : ∀ i, i < n → w.cell? ⟨b, off + i, none⟩ = some (.int .i64 (L i)))
    (hcv : ∀ i, i < n → w.cell? ⟨bv, offv + i * 2, none⟩ = some (.int .i64 (A i)) ∧ w.cell? ⟨bv, offv + i * 2 + 1, none⟩ = some (.int .i64 (B i)))
    (i k : Nat) (HI : Hid (segI L n x = i)) (HK : Hid (lb L x n = k)) (HF : Hid (foundB L x n = false)) (h2 : i ≤ k - 1 ∧ k - 1 ≤ i) (_h3 : 1 ≤ k ∧ k ≤ n - 1) :
    Calls Try.prog 70 #[.pointer (some ⟨bc, 0, none⟩), .int .i64 x, .func (.func 72) #[] #[]] w fun e w' => e = .returned (.tuple #[.int .i64 (lineNum L B n x), .int .i64 (lineDen L n x)]) ∧ Below w.heap.size w w' := by
  have hn2 := g.two
  have hn3 := g.most
  have HC := Lib.hid hc
  have HM := Lib.hid g.mono
  obtain ⟨s1, s2, s3⟩ := g.seg h0 h1
  have r1 := g.range i (by rw [← HI.out]; omega)
  have r2 := g.range (i + 1) (by rw [← HI.out]; omega)
  rw [HI.out] at s1 s2 s3
  have c1 := hc i (by omega)
  have c2 := hc (i + 1) s1
  have v1 := hcv i (by omega)
  have v2 := hcv (i + 1) s1
  obtain ⟨v1a, v1b⟩ := v1
  obtain ⟨v2a, v2b⟩ := v2
  have HD := Lib.hid (show lineDen L n x = L (i + 1) - L i by unfold lineDen; rw [HI.out])
  have HN := Lib.hid (show lineNum L B n x = B i * (L (i + 1) - L i) + (B (i + 1) - B i) * (x - L i) by unfold lineNum lineDen; rw [HI.out])
  have m1 : 0 ≤ B i * (L (i + 1) - L i) := Int.mul_nonneg (by omega) (by omega)
  have m2 : B i * (L (i + 1) - L i) ≤ 10000 * 10000 := Int.mul_le_mul (by omega) (by omega) (by omega) (by omega)
  have m3 : (B (i + 1) - B i) * (x - L i) ≤ 10000 * 10000 := by
    have e1 : (B (i + 1) - B i) * (x - L i) ≤ 10000 * (x - L i) := Int.mul_le_mul_of_nonneg_right (by omega) (by omega)
    have e2 : 10000 * (x - L i) ≤ 10000 * 10000 := by omega
    omega
  have m4 : -(10000 * 10000) ≤ (B (i + 1) - B i) * (x - L i) := by
    have e1 : (-10000) * (x - L i) ≤ (B (i + 1) - B i) * (x - L i) := Int.mul_le_mul_of_nonneg_right (by omega) (by omega)
    omega
  clear hc hcv g
  go_enter Try.func70, Try.ntmps70
  go_wp2_with (go_at_call 74; refine (search_any _ _ _ _ _ L _ (by omega) HC.out HM.out).mono ?_; rw [HK.out, HF.out]; rintro e w' ⟨rfl, rfl⟩)
  rw [show ((k : Int) - 1) = (i : Int) from by omega]
  have hi1 : ((i : Int) + 1).toNat = i + 1 := by omega
  refine wp_region_gw (by kernel_rfl) (by kernel_rfl) ?_
  repeat (go_big_quiet_step (((go_at_call 72; exact Calls.gw_of (hi_any _ _ _)))))
  refine wpQuiet_nil ?_
  rintro _ ⟨y, rfl⟩
  go_wp2
  refine wp_region_gw2 (by kernel_rfl) (by kernel_rfl) ?_
  repeat (go_big_quiet_step ((fail)))
  refine wpQuiet_nil ?_
  rintro _ ⟨z, rfl⟩
  go_wp2
  go_ret2
  exact ⟨by rw [HN.out, HD.out]; rfl, below_gw w z⟩

theorem line_hi (bc b off bv offv n cL cV : Nat) (x : Int) (L A B : Nat → Int) (w : World) (g : Good n L A B) (h0 : 0 ≤ x) (h1 : x ≤ 10000)
    (hbc : bc < w.heap.size) (hbl : b < w.heap.size) (hbv : bv < w.heap.size)
    (cs0 : w.cell? ⟨bc, 0, none⟩ = some (.slice (some ⟨b, off, none⟩) n cL)) (cs1 : w.cell? ⟨bc, 1, none⟩ = some (.slice (some ⟨bv, offv, none⟩) n cV))
    (hc : ∀ i, i < n → w.cell? ⟨b, off + i, none⟩ = some (.int .i64 (L i)))
    (hcv : ∀ i, i < n → w.cell? ⟨bv, offv + i * 2, none⟩ = some (.int .i64 (A i)) ∧ w.cell? ⟨bv, offv + i * 2 + 1, none⟩ = some (.int .i64 (B i))) :
    Calls Try.prog 70 #[.pointer (some ⟨bc, 0, none⟩), .int .i64 x, .func (.func 72) #[] #[]] w fun e w' => e = .returned (.tuple #[.int .i64 (lineNum L B n x), .int .i64 (lineDen L n x)]) ∧ Below w.heap.size w w' := by
  have hn2 := g.two
  cases hf : foundB L x n with
  | true =>
    obtain ⟨a, _⟩ := g.found_le hf
    by_cases c : lb L x n ≤ n - 2
    · have e : segI L n x = lb L x n := by unfold segI; rw [hf, if_pos rfl, Nat.min_eq_left c]
      exact line_hi_in bc b off bv offv n cL cV x L A B w g h0 h1 hbc hbl hbv cs0 cs1 hc hcv _ _ (Lib.hid e) (Lib.hid rfl) (Lib.hid hf) ⟨Nat.le_refl _, Nat.le_refl _⟩ c
    · have e : segI L n x = n - 2 := by unfold segI; rw [hf, if_pos rfl, Nat.min_eq_right (by omega)]
      exact line_hi_end bc b off bv offv n cL cV x L A B w g h0 h1 hbc hbl hbv cs0 cs1 hc hcv _ _ (Lib.hid e) (Lib.hid rfl) (Lib.hid hf) ⟨Nat.le_refl _, Nat.le_refl _⟩ (by omega)
  | false =>
    obtain ⟨a, b', _, _⟩ := g.lost h0 h1 hf
    have e : segI L n x = lb L x n - 1 := by unfold segI; rw [hf, if_neg (by simp), Nat.min_eq_left (by omega)]
    exact line_hi_off bc b off bv offv n cL cV x L A B w g h0 h1 hbc hbl hbv cs0 cs1 hc hcv _ _ (Lib.hid e) (Lib.hid rfl) (Lib.hid hf) ⟨Nat.le_refl _, Nat.le_refl _⟩ ⟨a, b'⟩
end Go.Proofs.Ytnmldophadanbaa
