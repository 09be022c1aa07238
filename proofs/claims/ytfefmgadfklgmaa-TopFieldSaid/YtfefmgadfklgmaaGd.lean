/- Contract of still.line, at both ends of a span. Contract of still.vapour. Contract of (*still).draw. Contracts of isCurve (whole), early, all, caught. No conditions beyond each theorem's own. -/
import Derived.Test.YtfefmgadfklgmaaGc
import Derived.Test.YtfefmgadfklgmaaGz
import Derived.Deep.RegionHeld3
import Derived.Deep.DeepCutAuto
set_option linter.unusedVariables false
set_option linter.unusedSimpArgs false
set_option linter.unusedSectionVars false
set_option linter.constructorNameAsVariable false
namespace Go.Proofs.Ytfefmgadfklgmaa.L4
open Go.RowKit

attribute [local go_sem] gw_cell gw_frozen gw_size

set_option maxRecDepth 100000 in
set_option maxHeartbeats 1000000 in
theorem line_lo_in (bc b off bv offv n cL cV : Nat) (x : Int) (L A B : Nat → Int) (w : World) (g : Good n L A B) (h0 : 0 ≤ x) (h1 : x ≤ 10000)
    (hbc : bc < w.heap.size) (hbl : b < w.heap.size) (hbv : bv < w.heap.size)
    (cs0 : w.cell? ⟨bc, 0, none⟩ = some (.slice (some ⟨b, off, none⟩) n cL)) (cs1 : w.cell? ⟨bc, 1, none⟩ = some (.slice (some ⟨bv, offv, none⟩) n cV))
    (hc : ∀ i, i < n → w.cell? ⟨b, off + i, none⟩ = some (.int .i64 (L i)))
    (hcv : ∀ i, i < n → w.cell? ⟨bv, offv + i * 2, none⟩ = some (.int .i64 (A i)) ∧ w.cell? ⟨bv, offv + i * 2 + 1, none⟩ = some (.int .i64 (B i)))
    (i k : Nat) (HI : Hid (segI L n x = i)) (HK : Hid (lb L x n = k)) (HF : Hid (foundB L x n = true)) (h2 : i ≤ k ∧ k ≤ i) (_h3 : k ≤ n - 2) :
    Calls Try.prog 78 #[.pointer (some ⟨bc, 0, none⟩), .int .i64 x, .func (.func 79) #[] #[]] w fun e w' => e = .returned (.tuple #[.int .i64 (lineNum L A n x), .int .i64 (lineDen L n x)]) ∧ Below w.heap.size w w' := by
  have hn2 := g.two
  have hn3 := g.most
  have HC := Lib.hid hc
  have HM := Lib.hid g.mono
  obtain ⟨s1, s2, s3⟩ := g.seg h0 h1
  have r1 := g.range i (by rw [← HI.out]; omega)
  have r2 := g.range (i + 1) (by rw [← HI.out]; omega)
  rw [HI.out] at s1 s2 s3
  have c1 := hc i (by omega)
  have c2 := hc (i + 1) s1
  have v1 := hcv i (by omega)
  have v2 := hcv (i + 1) s1
  obtain ⟨v1a, v1b⟩ := v1
  obtain ⟨v2a, v2b⟩ := v2
  have HD := Lib.hid (show lineDen L n x = L (i + 1) - L i by unfold lineDen; rw [HI.out])
  have HN := Lib.hid (show lineNum L A n x = A i * (L (i + 1) - L i) + (A (i + 1) - A i) * (x - L i) by unfold lineNum lineDen; rw [HI.out])
  have m1 : 0 ≤ A i * (L (i + 1) - L i) := Int.mul_nonneg (by omega) (by omega)
  have m2 : A i * (L (i + 1) - L i) ≤ 10000 * 10000 := Int.mul_le_mul (by omega) (by omega) (by omega) (by omega)
  have m3 : (A (i + 1) - A i) * (x - L i) ≤ 10000 * 10000 := by
    have e1 : (A (i + 1) - A i) * (x - L i) ≤ 10000 * (x - L i) := Int.mul_le_mul_of_nonneg_right (by omega) (by omega)
    have e2 : 10000 * (x - L i) ≤ 10000 * 10000 := by omega
    omega
  have m4 : -(10000 * 10000) ≤ (A (i + 1) - A i) * (x - L i) := by
    have e1 : (-10000) * (x - L i) ≤ (A (i + 1) - A i) * (x - L i) := Int.mul_le_mul_of_nonneg_right (by omega) (by omega)
    omega
  clear hc hcv g
  go_enter Try.func78, Try.ntmps78
  go_wp2_with (go_at_call 77; refine (search_any _ _ _ _ _ L _ (by omega) HC.out HM.out).mono ?_; rw [HK.out, HF.out]; rintro e w' ⟨rfl, rfl⟩)
  rw [show (k : Int) = (i : Int) from by omega]
  have hi1 : ((i : Int) + 1).toNat = i + 1 := by omega
  refine wp_region_gw (by kernel_rfl) (by kernel_rfl) ?_
  repeat (go_big_quiet_step (((go_at_call 79; exact Calls.gw_of (lo_any _ _ _)))))
  refine wpQuiet_nil ?_
  rintro _ ⟨y, rfl⟩
  go_wp2
  refine wp_region_gw2 (by kernel_rfl) (by kernel_rfl) ?_
  repeat (go_big_quiet_step ((fail)))
  refine wpQuiet_nil ?_
  rintro _ ⟨z, rfl⟩
  go_wp2
  go_ret2
  exact ⟨by rw [HN.out, HD.out]; rfl, below_gw w z⟩

set_option maxRecDepth 100000 in
set_option maxHeartbeats 1000000 in
theorem line_lo_end (bc b off bv offv n cL cV : Nat) (x : Int) (L A B : Nat → Int) (w : World) (g : Good n L A B) (h0 : 0 ≤ x) (h1 : x ≤ 10000)
    (hbc : bc < w.heap.size) (hbl : b < w.heap.size) (hbv : bv < w.heap.size)
    (cs0 : w.cell? ⟨bc, 0, none⟩ = some (.slice (some ⟨b, off, none⟩) n cL)) (cs1 : w.cell? ⟨bc, 1, none⟩ = some (.slice (some ⟨bv, offv, none⟩) n cV))
    (hc : ∀ i, i < n → w.cell? ⟨b, off + i, none⟩ = some (.int .i64 (L i)))
    (hcv : ∀ i, i < n → w.cell? ⟨bv, offv + i * 2, none⟩ = some (.int .i64 (A i)) ∧ w.cell? ⟨bv, offv + i * 2 + 1, none⟩ = some (.int .i64 (B i)))
    (i k : Nat) (HI : Hid (segI L n x = i)) (HK : Hid (lb L x n = k)) (HF : Hid (foundB L x n = true)) (h2 : i ≤ n - 2 ∧ n - 2 ≤ i) (_h3 : k = n - 1) :
    Calls Try.prog 78 #[.pointer (some ⟨bc, 0, none⟩), .int .i64 x, .func (.func 79) #[] #[]] w fun e w' => e = .returned (.tuple #[.int .i64 (lineNum L A n x), .int .i64 (lineDen L n x)]) ∧ Below w.heap.size w w' := by
  have hn2 := g.two
  have hn3 := g.most
  have HC := Lib.hid hc
  have HM := Lib.hid g.mono
  obtain ⟨s1, s2, s3⟩ := g.seg h0 h1
  have r1 := g.range i (by rw [← HI.out]; omega)
  have r2 := g.range (i + 1) (by rw [← HI.out]; omega)
  rw [HI.out] at s1 s2 s3
  have c1 := hc i (by omega)
  have c2 := hc (i + 1) s1
  have v1 := hcv i (by omega)
  have v2 := hcv (i + 1) s1
  obtain ⟨v1a, v1b⟩ := v1
  obtain ⟨v2a, v2b⟩ := v2
  have HD := Lib.hid (show lineDen L n x = L (i + 1) - L i by unfold lineDen; rw [HI.out])
  have HN := Lib.hid (show lineNum L A n x = A i * (L (i + 1) - L i) + (A (i + 1) - A i) * (x - L i) by unfold lineNum lineDen; rw [HI.out])
  have m1 : 0 ≤ A i * (L (i + 1) - L i) := Int.mul_nonneg (by omega) (by omega)
  have m2 : A i * (L (i + 1) - L i) ≤ 10000 * 10000 := Int.mul_le_mul (by omega) (by omega) (by omega) (by omega)
  have m3 : (A (i + 1) - A i) * (x - L i) ≤ 10000 * 10000 := by
    have e1 : (A (i + 1) - A i) * (x - L i) ≤ 10000 * (x - L i) := Int.mul_le_mul_of_nonneg_right (by omega) (by omega)
    have e2 : 10000 * (x - L i) ≤ 10000 * 10000 := by omega
    omega
  have m4 : -(10000 * 10000) ≤ (A (i + 1) - A i) * (x - L i) := by
    have e1 : (-10000) * (x - L i) ≤ (A (i + 1) - A i) * (x - L i) := Int.mul_le_mul_of_nonneg_right (by omega) (by omega)
    omega
  clear hc hcv g
  go_enter Try.func78, Try.ntmps78
  go_wp2_with (go_at_call 77; refine (search_any _ _ _ _ _ L _ (by omega) HC.out HM.out).mono ?_; rw [HK.out, HF.out]; rintro e w' ⟨rfl, rfl⟩)
  rw [show ((n : Int) - 2) = (i : Int) from by omega]
  have hi1 : ((i : Int) + 1).toNat = i + 1 := by omega
  refine wp_region_gw (by kernel_rfl) (by kernel_rfl) ?_
  repeat (go_big_quiet_step (((go_at_call 79; exact Calls.gw_of (lo_any _ _ _)))))
  refine wpQuiet_nil ?_
  rintro _ ⟨y, rfl⟩
  go_wp2
  refine wp_region_gw2 (by kernel_rfl) (by kernel_rfl) ?_
  repeat (go_big_quiet_step ((fail)))
  refine wpQuiet_nil ?_
  rintro _ ⟨z, rfl⟩
  go_wp2
  go_ret2
  exact ⟨by rw [HN.out, HD.out]; rfl, below_gw w z⟩

set_option maxRecDepth 100000 in
set_option maxHeartbeats 1000000 in
theorem line_lo_off (bc b off bv offv n cL cV : Nat) (x : Int) (L A B : Nat → Int) (w : World) (g : Good n L A B) (h0 : 0 ≤ x) (h1 : x ≤ 10000)
    (hbc : bc < w.heap.size) (hbl : b < w.heap.size) (hbv : bv < w.heap.size)
    (cs0 : w.cell? ⟨bc, 0, none⟩ = some (.slice (some ⟨b, off, none⟩) n cL)) (cs1 : w.cell? ⟨bc, 1, none⟩ = some (.slice (some ⟨bv, offv, none⟩) n cV))
    (hc : ∀ i, i < n → w.cell? ⟨b, off + i, none⟩ = some (.int .i64 (L i)))
    (hcv : ∀ i, i < n → w.cell? ⟨bv, offv + i * 2, none⟩ = some (.int .i64 (A i)) ∧ w.cell? ⟨bv, offv + i * 2 + 1, none⟩ = some (.int .i64 (B i)))
    (i k : Nat) (HI : Hid (segI L n x = i)) (HK : Hid (lb L x n = k)) (HF : Hid (foundB L x n = false)) (h2 : i ≤ k - 1 ∧ k - 1 ≤ i) (_h3 : 1 ≤ k ∧ k ≤ n - 1) :
    Calls Try.prog 78 #[.pointer (some ⟨bc, 0, none⟩), .int .i64 x, .func (.func 79) #[] #[]] w fun e w' => e = .returned (.tuple #[.int .i64 (lineNum L A n x), .int .i64 (lineDen L n x)]) ∧ Below w.heap.size w w' := by
  have hn2 := g.two
  have hn3 := g.most
  have HC := Lib.hid hc
  have HM := Lib.hid g.mono
  obtain ⟨s1, s2, s3⟩ := g.seg h0 h1
  have r1 := g.range i (by rw [← HI.out]; omega)
  have r2 := g.range (i + 1) (by rw [← HI.out]; omega)
  rw [HI.out] at s1 s2 s3
  have c1 := hc i (by omega)
  have c2 := hc (i + 1) s1
  have v1 := hcv i (by omega)
  have v2 := hcv (i + 1) s1
  obtain ⟨v1a, v1b⟩ := v1
  obtain ⟨v2a, v2b⟩ := v2
  have HD := Lib.hid (show lineDen L n x = L (i + 1) - L i by unfold lineDen; rw [HI.out])
  have HN := Lib.hid (show lineNum L A n x = A i * (L (i + 1) - L i) + (A (i + 1) - A i) * (x - L i) by unfold lineNum lineDen; rw [HI.out])
  have m1 : 0 ≤ A i * (L (i + 1) - L i) := Int.mul_nonneg (by omega) (by omega)
  have m2 : A i * (L (i + 1) - L i) ≤ 10000 * 10000 := Int.mul_le_mul (by omega) (by omega) (by omega) (by omega)
  have m3 : (A (i + 1) - A i) * (x - L i) ≤ 10000 * 10000 := by
    have e1 : (A (i + 1) - A i) * (x - L i) ≤ 10000 * (x - L i) := Int.mul_le_mul_of_nonneg_right (by omega) (by omega)
    have e2 : 10000 * (x - L i) ≤ 10000 * 10000 := by omega
    omega
  have m4 : -(10000 * 10000) ≤ (A (i + 1) - A i) * (x - L i) := by
    have e1 : (-10000) * (x - L i) ≤ (A (i + 1) - A i) * (x - L i) := Int.mul_le_mul_of_nonneg_right (by omega) (by omega)
    omega
  clear hc hcv g
  go_enter Try.func78, Try.ntmps78
  go_wp2_with (go_at_call 77; refine (search_any _ _ _ _ _ L _ (by omega) HC.out HM.out).mono ?_; rw [HK.out, HF.out]; rintro e w' ⟨rfl, rfl⟩)
  rw [show ((k : Int) - 1) = (i : Int) from by omega]
  have hi1 : ((i : Int) + 1).toNat = i + 1 := by omega
  refine wp_region_gw (by kernel_rfl) (by kernel_rfl) ?_
  repeat (go_big_quiet_step (((go_at_call 79; exact Calls.gw_of (lo_any _ _ _)))))
  refine wpQuiet_nil ?_
  rintro _ ⟨y, rfl⟩
  go_wp2
  refine wp_region_gw2 (by kernel_rfl) (by kernel_rfl) ?_
  repeat (go_big_quiet_step ((fail)))
  refine wpQuiet_nil ?_
  rintro _ ⟨z, rfl⟩
  go_wp2
  go_ret2
  exact ⟨by rw [HN.out, HD.out]; rfl, below_gw w z⟩

theorem line_lo (bc b off bv offv n cL cV : Nat) (x : Int) (L A B : Nat → Int) (w : World) (g : Good n L A B) (h0 : 0 ≤ x) (h1 : x ≤ 10000)
    (hbc : bc < w.heap.size) (hbl : b < w.heap.size) (hbv : bv < w.heap.size)
    (cs0 : w.cell? ⟨bc, 0, none⟩ = some (.slice (some ⟨b, off, none⟩) n cL)) (cs1 : w.cell? ⟨bc, 1, none⟩ = some (.slice (some ⟨bv, offv, none⟩) n cV))
    (hc : ∀ i, i < n → w.cell? ⟨b, off + i, none⟩ = some (.int .i64 (L i)))
    (hcv : ∀ i, i < n → w.cell? ⟨bv, offv + i * 2, none⟩ = some (.int .i64 (A i)) ∧ w.cell? ⟨bv, offv + i * 2 + 1, none⟩ = some (.int .i64 (B i))) :
    Calls Try.prog 78 #[.pointer (some ⟨bc, 0, none⟩), .int .i64 x, .func (.func 79) #[] #[]] w fun e w' => e = .returned (.tuple #[.int .i64 (lineNum L A n x), .int .i64 (lineDen L n x)]) ∧ Below w.heap.size w w' := by
  have hn2 := g.two
  cases hf : foundB L x n with
  | true =>
    obtain ⟨a, _⟩ := g.found_le hf
    by_cases c : lb L x n ≤ n - 2
    · have e : segI L n x = lb L x n := by unfold segI; rw [hf, if_pos rfl, Nat.min_eq_left c]
      exact line_lo_in bc b off bv offv n cL cV x L A B w g h0 h1 hbc hbl hbv cs0 cs1 hc hcv _ _ (Lib.hid e) (Lib.hid rfl) (Lib.hid hf) ⟨Nat.le_refl _, Nat.le_refl _⟩ c
    · have e : segI L n x = n - 2 := by unfold segI; rw [hf, if_pos rfl, Nat.min_eq_right (by omega)]
      exact line_lo_end bc b off bv offv n cL cV x L A B w g h0 h1 hbc hbl hbv cs0 cs1 hc hcv _ _ (Lib.hid e) (Lib.hid rfl) (Lib.hid hf) ⟨Nat.le_refl _, Nat.le_refl _⟩ (by omega)
  | false =>
    obtain ⟨a, b', _, _⟩ := g.lost h0 h1 hf
    have e : segI L n x = lb L x n - 1 := by unfold segI; rw [hf, if_neg (by simp), Nat.min_eq_left (by omega)]
    exact line_lo_off bc b off bv offv n cL cV x L A B w g h0 h1 hbc hbl hbv cs0 cs1 hc hcv _ _ (Lib.hid e) (Lib.hid rfl) (Lib.hid hf) ⟨Nat.le_refl _, Nat.le_refl _⟩ ⟨a, b'⟩

set_option maxRecDepth 100000 in
set_option maxHeartbeats 1000000 in
theorem line_hi_in (bc b off bv offv n cL cV : Nat) (x : Int) (L A B : Nat → Int) (w : World) (g : Good n L A B) (h0 : 0 ≤ x) (h1 : x ≤ 10000)
    (hbc : bc < w.heap.size) (hbl : b < w.heap.size) (hbv : bv < w.heap.size)
    (cs0 : w.cell? ⟨bc, 0, none⟩ = some (.slice (some ⟨b, off, none⟩) n cL)) (cs1 : w.cell? ⟨bc, 1, none⟩ = some (.slice (some ⟨bv, offv, none⟩) n cV))
    (hc : ∀ i, i < n → w.cell? ⟨b, off + i, none⟩ = some (.int .i64 (L i)))
    (hcv : ∀ i, i < n → w.cell? ⟨bv, offv + i * 2, none⟩ = some (.int .i64 (A i)) ∧ w.cell? ⟨bv, offv + i * 2 + 1, none⟩ = some (.int .i64 (B i)))
    (i k : Nat) (HI : Hid (segI L n x = i)) (HK : Hid (lb L x n = k)) (HF : Hid (foundB L x n = true)) (h2 : i ≤ k ∧ k ≤ i) (_h3 : k ≤ n - 2) :
    Calls Try.prog 78 #[.pointer (some ⟨bc, 0, none⟩), .int .i64 x, .func (.func 80) #[] #[]] w fun e w' => e = .returned (.tuple #[.int .i64 (lineNum L B n x), .int .i64 (lineDen L n x)]) ∧ Below w.heap.size w w' := by
  have hn2 := g.two
  have hn3 := g.most
  have HC := Lib.hid hc
  have HM := Lib.hid g.mono
  obtain ⟨s1, s2, s3⟩ := g.seg h0 h1
  have r1 := g.range i (by rw [← HI.out]; omega)
  have r2 := g.range (i + 1) (by rw [← HI.out]; omega)
  rw [HI.out] at s1 s2 s3
  have c1 := hc i (by omega)
  have c2 := hc (i + 1) s1
  have v1 := hcv i (by omega)
  have v2 := hcv (i + 1) s1
  obtain ⟨v1a, v1b⟩ := v1
  obtain ⟨v2a, v2b⟩ := v2
  have HD := Lib.hid (show lineDen L n x = L (i + 1) - L i by unfold lineDen; rw [HI.out])
  have HN := Lib.hid (show lineNum L B n x = B i * (L (i + 1) - L i) + (B (i + 1) - B i) * (x - L i) by unfold lineNum lineDen; rw [HI.out])
  have m1 : 0 ≤ B i * (L (i + 1) - L i) := Int.mul_nonneg (by omega) (by omega)
  have m2 : B i * (L (i + 1) - L i) ≤ 10000 * 10000 := Int.mul_le_mul (by omega) (by omega) (by omega) (by omega)
  have m3 : (B (i + 1) - B i) * (x - L i) ≤ 10000 * 10000 := by
    have e1 : (B (i + 1) - B i) * (x - L i) ≤ 10000 * (x - L i) := Int.mul_le_mul_of_nonneg_right (by omega) (by omega)
    have e2 : 10000 * (x - L i) ≤ 10000 * 10000 := by omega
    omega
  have m4 : -(10000 * 10000) ≤ (B (i + 1) - B i) * (x - L i) := by
    have e1 : (-10000) * (x - L i) ≤ (B (i + 1) - B i) * (x - L i) := Int.mul_le_mul_of_nonneg_right (by omega) (by omega)
    omega
  clear hc hcv g
  go_enter Try.func78, Try.ntmps78
  go_wp2_with (go_at_call 77; refine (search_any _ _ _ _ _ L _ (by omega) HC.out HM.out).mono ?_; rw [HK.out, HF.out]; rintro e w' ⟨rfl, rfl⟩)
  rw [show (k : Int) = (i : Int) from by omega]
  have hi1 : ((i : Int) + 1).toNat = i + 1 := by omega
  refine wp_region_gw (by kernel_rfl) (by kernel_rfl) ?_
  repeat (go_big_quiet_step (((go_at_call 80; exact Calls.gw_of (hi_any _ _ _)))))
  refine wpQuiet_nil ?_
  rintro _ ⟨y, rfl⟩
  go_wp2
  refine wp_region_gw2 (by kernel_rfl) (by kernel_rfl) ?_
  repeat (go_big_quiet_step ((fail)))
  refine wpQuiet_nil ?_
  rintro _ ⟨z, rfl⟩
  go_wp2
  go_ret2
  exact ⟨by rw [HN.out, HD.out]; rfl, below_gw w z⟩

set_option maxRecDepth 100000 in
set_option maxHeartbeats 1000000 in
theorem line_hi_end (bc b off bv offv n cL cV : Nat) (x : Int) (L A B : Nat → Int) (w : World) (g : Good n L A B) (h0 : 0 ≤ x) (h1 : x ≤ 10000)
    (hbc : bc < w.heap.size) (hbl : b < w.heap.size) (hbv : bv < w.heap.size)
    (cs0 : w.cell? ⟨bc, 0, none⟩ = some (.slice (some ⟨b, off, none⟩) n cL)) (cs1 : w.cell? ⟨bc, 1, none⟩ = some (.slice (some ⟨bv, offv, none⟩) n cV))
    (hc : ∀ i, i < n → w.cell? ⟨b, off + i, none⟩ = some (.int .i64 (L i)))
    (hcv : ∀ i, i < n → w.cell? ⟨bv, offv + i * 2, none⟩ = some (.int .i64 (A i)) ∧ w.cell? ⟨bv, offv + i * 2 + 1, none⟩ = some (.int .i64 (B i)))
    (i k : Nat) (HI : Hid (segI L n x = i)) (HK : Hid (lb L x n = k)) (HF : Hid (foundB L x n = true)) (h2 : i ≤ n - 2 ∧ n - 2 ≤ i) (_h3 : k = n - 1) :
    Calls Try.prog 78 #[.pointer (some ⟨bc, 0, none⟩), .int .i64 x, .func (.func 80) #[] #[]] w fun e w' => e = .returned (.tuple #[.int .i64 (lineNum L B n x), .int .i64 (lineDen L n x)]) ∧ Below w.heap.size w w' := by
  have hn2 := g.two
  have hn3 := g.most
  have HC := Lib.hid hc
  have HM := Lib.hid g.mono
  obtain ⟨s1, s2, s3⟩ := g.seg h0 h1
  have r1 := g.range i (by rw [← HI.out]; omega)
  have r2 := g.range (i + 1) (by rw [← HI.out]; omega)
  rw [HI.out] at s1 s2 s3
  have c1 := hc i (by omega)
  have c2 := hc (i + 1) s1
  have v1 := hcv i (by omega)
  have v2 := hcv (i + 1) s1
  obtain ⟨v1a, v1b⟩ := v1
  obtain ⟨v2a, v2b⟩ := v2
  have HD := Lib.hid (show lineDen L n x = L (i + 1) - L i by unfold lineDen; rw [HI.out])
  have HN := Lib.hid (show lineNum L B n x = B i * (L (i + 1) - L i) + (B (i + 1) - B i) * (x - L i) by unfold lineNum lineDen; rw [HI.out])
  have m1 : 0 ≤ B i * (L (i + 1) - L i) := Int.mul_nonneg (by omega) (by omega)
  have m2 : B i * (L (i + 1) - L i) ≤ 10000 * 10000 := Int.mul_le_mul (by omega) (by omega) (by omega) (by omega)
  have m3 : (B (i + 1) - B i) * (x - L i) ≤ 10000 * 10000 := by
    have e1 : (B (i + 1) - B i) * (x - L i) ≤ 10000 * (x - L i) := Int.mul_le_mul_of_nonneg_right (by omega) (by omega)
    have e2 : 10000 * (x - L i) ≤ 10000 * 10000 := by omega
    omega
  have m4 : -(10000 * 10000) ≤ (B (i + 1) - B i) * (x - L i) := by
    have e1 : (-10000) * (x - L i) ≤ (B (i + 1) - B i) * (x - L i) := Int.mul_le_mul_of_nonneg_right (by omega) (by omega)
    omega
  clear hc hcv g
  go_enter Try.func78, Try.ntmps78
  go_wp2_with (go_at_call 77; refine (search_any _ _ _ _ _ L _ (by omega) HC.out HM.out).mono ?_; rw [HK.out, HF.out]; rintro e w' ⟨rfl, rfl⟩)
  rw [show ((n : Int) - 2) = (i : Int) from by omega]
  have hi1 : ((i : Int) + 1).toNat = i + 1 := by omega
  refine wp_region_gw (by kernel_rfl) (by kernel_rfl) ?_
  repeat (go_big_quiet_step (((go_at_call 80; exact Calls.gw_of (hi_any _ _ _)))))
  refine wpQuiet_nil ?_
  rintro _ ⟨y, rfl⟩
  go_wp2
  refine wp_region_gw2 (by kernel_rfl) (by kernel_rfl) ?_
  repeat (go_big_quiet_step ((fail)))
  refine wpQuiet_nil ?_
  rintro _ ⟨z, rfl⟩
  go_wp2
  go_ret2
  exact ⟨by rw [HN.out, HD.out]; rfl, below_gw w z⟩

set_option maxRecDepth 100000 in
set_option maxHeartbeats 1000000 in
theorem line_hi_off (bc b off bv offv n cL cV : Nat) (x : Int) (L A B : Nat → Int) (w : World) (g : Good n L A B) (h0 : 0 ≤ x) (h1 : x ≤ 10000)
    (hbc : bc < w.heap.size) (hbl : b < w.heap.size) (hbv : bv < w.heap.size)
    (cs0 : w.cell? ⟨bc, 0, none⟩ = some (.slice (some ⟨b, off, none⟩) n cL)) (cs1 : w.cell? ⟨bc, 1, none⟩ = some (.slice (some ⟨bv, offv, none⟩) n cV))
    (hc : ∀ i, i < n → w.cell? ⟨b, off + i, none⟩ = some (.int .i64 (L i)))
    (hcv : ∀ i, i < n → w.cell? ⟨bv, offv + i * 2, none⟩ = some (.int .i64 (A i)) ∧ w.cell? ⟨bv, offv + i * 2 + 1, none⟩ = some (.int .i64 (B i)))
    (i k : Nat) (HI : Hid (segI L n x = i)) (HK : Hid (lb L x n = k)) (HF : Hid (foundB L x n = false)) (h2 : i ≤ k - 1 ∧ k - 1 ≤ i) (_h3 : 1 ≤ k ∧ k ≤ n - 1) :
    Calls Try.prog 78 #[.pointer (some ⟨bc, 0, none⟩), .int .i64 x, .func (.func 80) #[] #[]] w fun e w' => e = .returned (.tuple #[.int .i64 (lineNum L B n x), .int .i64 (lineDen L n x)]) ∧ Below w.heap.size w w' := by
  have hn2 := g.two
  have hn3 := g.most
  have HC := Lib.hid hc
  have HM := Lib.hid g.mono
  obtain ⟨s1, s2, s3⟩ := g.seg h0 h1
  have r1 := g.range i (by rw [← HI.out]; omega)
  have r2 := g.range (i + 1) (by rw [← HI.out]; omega)
  rw [HI.out] at s1 s2 s3
  have c1 := hc i (by omega)
  have c2 := hc (i + 1) s1
  have v1 := hcv i (by omega)
  have v2 := hcv (i + 1) s1
  obtain ⟨v1a, v1b⟩ := v1
  obtain ⟨v2a, v2b⟩ := v2
  have HD := Lib.hid (show lineDen L n x = L (i + 1) - L i by unfold lineDen; rw [HI.out])
  have HN := Lib.hid (show lineNum L B n x = B i * (L (i + 1) - L i) + (B (i + 1) - B i) * (x - L i) by unfold lineNum lineDen; rw [HI.out])
  have m1 : 0 ≤ B i * (L (i + 1) - L i) := Int.mul_nonneg (by omega) (by omega)
  have m2 : B i * (L (i + 1) - L i) ≤ 10000 * 10000 := Int.mul_le_mul (by omega) (by omega) (by omega) (by omega)
  have m3 : (B (i + 1) - B i) * (x - L i) ≤ 10000 * 10000 := by
    have e1 : (B (i + 1) - B i) * (x - L i) ≤ 10000 * (x - L i) := Int.mul_le_mul_of_nonneg_right (by omega) (by omega)
    have e2 : 10000 * (x - L i) ≤ 10000 * 10000 := by omega
    omega
  have m4 : -(10000 * 10000) ≤ (B (i + 1) - B i) * (x - L i) := by
    have e1 : (-10000) * (x - L i) ≤ (B (i + 1) - B i) * (x - L i) := Int.mul_le_mul_of_nonneg_right (by omega) (by omega)
    omega
  clear hc hcv g
  go_enter Try.func78, Try.ntmps78
  go_wp2_with (go_at_call 77; refine (search_any _ _ _ _ _ L _ (by omega) HC.out HM.out).mono ?_; rw [HK.out, HF.out]; rintro e w' ⟨rfl, rfl⟩)
  rw [show ((k : Int) - 1) = (i : Int) from by omega]
  have hi1 : ((i : Int) + 1).toNat = i + 1 := by omega
  refine wp_region_gw (by kernel_rfl) (by kernel_rfl) ?_
  repeat (go_big_quiet_step (((go_at_call 80; exact Calls.gw_of (hi_any _ _ _)))))
  refine wpQuiet_nil ?_
  rintro _ ⟨y, rfl⟩
  go_wp2
  refine wp_region_gw2 (by kernel_rfl) (by kernel_rfl) ?_
  repeat (go_big_quiet_step ((fail)))
  refine wpQuiet_nil ?_
  rintro _ ⟨z, rfl⟩
  go_wp2
  go_ret2
  exact ⟨by rw [HN.out, HD.out]; rfl, below_gw w z⟩

theorem line_hi (bc b off bv offv n cL cV : Nat) (x : Int) (L A B : Nat → Int) (w : World) (g : Good n L A B) (h0 : 0 ≤ x) (h1 : x ≤ 10000)
    (hbc : bc < w.heap.size) (hbl : b < w.heap.size) (hbv : bv < w.heap.size)
    (cs0 : w.cell? ⟨bc, 0, none⟩ = some (.slice (some ⟨b, off, none⟩) n cL)) (cs1 : w.cell? ⟨bc, 1, none⟩ = some (.slice (some ⟨bv, offv, none⟩) n cV))
    (hc : ∀ i, i < n → w.cell? ⟨b, off + i, none⟩ = some (.int .i64 (L i)))
    (hcv : ∀ i, i < n → w.cell? ⟨bv, offv + i * 2, none⟩ = some (.int .i64 (A i)) ∧ w.cell? ⟨bv, offv + i * 2 + 1, none⟩ = some (.int .i64 (B i))) :
    Calls Try.prog 78 #[.pointer (some ⟨bc, 0, none⟩), .int .i64 x, .func (.func 80) #[] #[]] w fun e w' => e = .returned (.tuple #[.int .i64 (lineNum L B n x), .int .i64 (lineDen L n x)]) ∧ Below w.heap.size w w' := by
  have hn2 := g.two
  cases hf : foundB L x n with
  | true =>
    obtain ⟨a, _⟩ := g.found_le hf
    by_cases c : lb L x n ≤ n - 2
    · have e : segI L n x = lb L x n := by unfold segI; rw [hf, if_pos rfl, Nat.min_eq_left c]
      exact line_hi_in bc b off bv offv n cL cV x L A B w g h0 h1 hbc hbl hbv cs0 cs1 hc hcv _ _ (Lib.hid e) (Lib.hid rfl) (Lib.hid hf) ⟨Nat.le_refl _, Nat.le_refl _⟩ c
    · have e : segI L n x = n - 2 := by unfold segI; rw [hf, if_pos rfl, Nat.min_eq_right (by omega)]
      exact line_hi_end bc b off bv offv n cL cV x L A B w g h0 h1 hbc hbl hbv cs0 cs1 hc hcv _ _ (Lib.hid e) (Lib.hid rfl) (Lib.hid hf) ⟨Nat.le_refl _, Nat.le_refl _⟩ (by omega)
  | false =>
    obtain ⟨a, b', _, _⟩ := g.lost h0 h1 hf
    have e : segI L n x = lb L x n - 1 := by unfold segI; rw [hf, if_neg (by simp), Nat.min_eq_left (by omega)]
    exact line_hi_off bc b off bv offv n cL cV x L A B w g h0 h1 hbc hbl hbv cs0 cs1 hc hcv _ _ (Lib.hid e) (Lib.hid rfl) (Lib.hid hf) ⟨Nat.le_refl _, Nat.le_refl _⟩ ⟨a, b'⟩
end Go.Proofs.Ytfefmgadfklgmaa.L4

namespace Go.Proofs.Ytfefmgadfklgmaa.L4
open Go.RowKit

attribute [local go_sem] gw_cell gw_frozen gw_size

set_option maxRecDepth 100000 in
set_option maxHeartbeats 1000000 in
theorem vapour_any (bc b off bv offv n cL cV : Nat) (lo hi : Int) (L A B : Nat → Int) (w : World) (g : Good n L A B) (hC : CurveAt w bc b off bv offv n cL cV L A B)
    (h0 : 0 ≤ lo) (h1 : lo ≤ 10000) (h2 : 0 ≤ hi) (h3 : hi ≤ 10000) :
    Calls Try.prog 75 #[.pointer (some ⟨bc, 0, none⟩), .agg #[.int .i64 lo, .int .i64 hi]] w fun e w' => e = .returned (.agg #[.int .i64 (vapLo L A n lo), .int .i64 (vapHi L B n hi)]) ∧ Below w.heap.size w w' := by
  have d1 := g.den h0 h1
  have d2 := g.den h2 h3
  have m1 := lineNum_nonneg g (fun i hi => ⟨(g.range i hi).2.2.1, (g.range i hi).2.2.2.1⟩) h0 h1 (E := A)
  have m2 := lineNum_nonneg g (fun i hi => ⟨(g.range i hi).2.2.2.2.1, (g.range i hi).2.2.2.2.2⟩) h2 h3 (E := B)
  have nz : ¬ lineDen L n lo = 0 := by omega
  have HC := Lib.hid hC; clear hC
  have HL := Lib.hid (show vapLo L A n lo = lineNum L A n lo / lineDen L n lo from rfl)
  have HH := Lib.hid (show vapHi L B n hi = upI (lineNum L B n hi) (lineDen L n hi) from rfl)
  go_enter Try.func75, Try.ntmps75
  go_wp2_with fail
  have hC1 := HC.out.below (((Below.refl _ w).alloc (Nat.le_refl _) (.cells #[.int .i64 lo, .int .i64 hi] 23)).alloc (by simp) (.cells #[.int .i64 0, .int .i64 0] 23))
  refine (Calls.grown (line_lo bc b off bv offv n cL cV lo L A B _ g h0 h1 hC1.cb hC1.pts.lb hC1.pts.vb hC1.c0 hC1.c1 hC1.pts.ls hC1.pts.vs)).mono ?_
  have HC1 := Lib.hid hC1; clear hC1
  rintro e w1 ⟨rfl, x, rfl⟩
  go_wp2_with fail
  have hC2 := HC1.out.gw x
  refine (Calls.gw_of (line_hi bc b off bv offv n cL cV hi L A B _ g h2 h3 hC2.cb hC2.pts.lb hC2.pts.vb hC2.c0 hC2.c1 hC2.pts.ls hC2.pts.vs)).mono ?_
  clear hC2
  rintro e w1 ⟨rfl, y, rfl⟩
  go_wp2_with fail
  refine wp_region_gw_tail2 7 (by kernel_rfl) (by kernel_rfl) ?_
  simp only [List.take_succ_cons, List.take_zero]
  repeat (go_big_quiet_step (((go_at_call 74; exact Calls.gw_of_same ((up_any _ _ _ (by omega) (by omega) (by omega) (by omega)))))))
  refine wpQuiet_nil ?_
  rintro _ ⟨z, rfl⟩
  simp only [List.drop_succ_cons, List.drop_zero]
  go_wp2
  rw [HL.out, HH.out]
  refine bodyPost_ret (v := .agg #[.int .i64 (lineNum L A n lo / lineDen L n lo), .int .i64 (upI (lineNum L B n hi) (lineDen L n hi))]) (by simp [results, Try.results75, go_sem]) rfl ⟨rfl, ?_⟩
  exact ((((((Below.refl _ w).alloc (Nat.le_refl _) _).alloc (by simp) _).gw z).setCell (by simp) _).setCell (by simp) _)
end Go.Proofs.Ytfefmgadfklgmaa.L4

namespace Go.Proofs.Ytfefmgadfklgmaa.L4
open Go.RowKit

theorem field_lo (x y : Int) (w : World) : Sem.run Try.prog (Instr.field 23 (.agg #[.int .i64 x, .int .i64 y]) 0) w = .ok (.int .i64 x) w := by kernel_rfl
theorem field_hi (x y : Int) (w : World) : Sem.run Try.prog (Instr.field 23 (.agg #[.int .i64 x, .int .i64 y]) 1) w = .ok (.int .i64 y) w := by kernel_rfl

theorem StillBox.other {w : World} {bs bc : Nat} {v lo hi : Int} (h : StillBox w bs v lo hi bc) {r : Nat} (hr : r ≠ bs) (k : Nat) (u : Value) : StillBox (w.setCell ⟨r, k, none⟩ u) bs v lo hi bc :=
  (Below.heap_setCell w ⟨r, k, none⟩ u bs (Ne.symm hr)).trans h
attribute [local go_sem] gw_cell gw_frozen gw_size field_lo field_hi
attribute [local go_sem ↓] run_minZ run_maxZ run_minZ3

set_option maxRecDepth 100000 in
set_option maxHeartbeats 1000000 in
theorem draw_range (bs : Nat) (d : Int) (w : World) (h : inB d 1 1073741824 = false) :
    Calls Try.prog 55 #[.pointer (some ⟨bs, 0, none⟩), .int .i64 d] w fun e w' => e = .panicked [{ v := .iface 122 (.agg #[.int .i64 2]), recovered := false }] ∧ Below w.heap.size w w' := by
  have H := Lib.hid h; clear h
  go_enter Try.func55, Try.ntmps55
  go_wp2_with fail
  refine (within_b _ _ _ _ H.out).mono ?_
  rintro e w' ⟨rfl, rfl⟩
  go_wp2_with fail
  refine (need_not _ _).mono ?_
  rintro e w' ⟨rfl, rfl⟩
  go_wp2_with fail
  exact ⟨rfl, rfl, (Below.refl _ w).alloc (Nat.le_refl _) _⟩

set_option maxRecDepth 100000 in
set_option maxHeartbeats 1000000 in
theorem draw_short (bs bc : Nat) (v lo hi d : Int) (w : World) (h : inB d 1 1073741824 = true) (hS : StillBox w bs v lo hi bc) (hd : v < d) :
    Calls Try.prog 55 #[.pointer (some ⟨bs, 0, none⟩), .int .i64 d] w fun e w' => e = .panicked [{ v := .iface 122 (.agg #[.int .i64 10]), recovered := false }] ∧ Below w.heap.size w w' := by
  have H := Lib.hid h; clear h
  have c0 := hS.c0
  have lt := hS.lt
  have hdd : decide (d ≤ v) = false := by simp; omega
  clear hS
  go_enter Try.func55, Try.ntmps55
  go_wp2_with fail
  refine (within_b _ _ _ _ H.out).mono ?_
  rintro e w' ⟨rfl, rfl⟩
  go_wp2_with fail
  refine (need_ok _ _).mono ?_
  rintro e w' ⟨rfl, rfl⟩
  go_wp2_with fail
  refine (need_not _ _).mono ?_
  rintro e w' ⟨rfl, rfl⟩
  go_wp2_with fail
  exact ⟨rfl, rfl, (Below.refl _ w).alloc (Nat.le_refl _) _⟩

set_option maxRecDepth 100000 in
set_option maxHeartbeats 4000000 in
theorem draw_ok (bs bc b off bv offv n cL cV : Nat) (L A B : Nat → Int) (v lo hi d : Int) (w : World) (h : inB d 1 1073741824 = true) (g : Good n L A B)
    (hC : CurveAt w bc b off bv offv n cL cV L A B) (hS : StillBox w bs v lo hi bc) (hd : d ≤ v) (p0 : 0 ≤ lo) (p1 : lo ≤ hi) (p2 : hi ≤ v) (p3 : v ≤ 1073741824)
    (oL oH vh um mo st wk th ls u3 hg : Int) (HoL : Hid (oL = lo * 10000 / v)) (HoH : Hid (oH = upI (hi * 10000) v)) (Hvh : Hid (vh = vapHi L B n oH)) (Hum : Hid (um = upI (d * vh) 10000)) (Hmo : Hid (mo = min hi um))
    (Hst : Hid (st = max 0 (lo - mo))) (Hwk : Hid (wk = min oL (if v - d = 0 then 0 else st * 10000 / (v - d)))) (Hth : Hid (th = vapLo L A n wk)) (Hls : Hid (ls = max (lo - (v - d)) (d * th / 10000)))
    (Hu3 : Hid (u3 = upI (hi * (v - d)) v)) (Hhg : Hid (hg = min (hi - ls) (min (v - d) u3))) :
    Calls Try.prog 55 #[.pointer (some ⟨bs, 0, none⟩), .int .i64 d] w fun e w' => e = .returned (.agg #[.int .i64 d, .int .i64 ls, .int .i64 mo]) ∧ StillBox w' bs (v - d) st hg bc ∧ w.grownBy w' (some bs) := by
  have hd1 := inB_t.1 h
  have H := Lib.hid h; clear h
  have c0 := hS.c0
  have c1 := hS.c1
  have c2 := hS.c2
  have c3 := hS.c3
  have lt := hS.lt
  have HS := Lib.hid hS; clear hS
  have HC := Lib.hid hC; clear hC
  have hdd : decide (d ≤ v) = true := by simp; omega
  have q0 : 0 ≤ lo * 10000 := by omega
  have q1 : 0 ≤ hi * 10000 := by omega
  have r0 : 0 ≤ oL ∧ oL ≤ 10000 := by
    rw [HoL.out]
    exact ⟨Int.ediv_nonneg (by omega) (by omega), by have := Int.ediv_lt_of_lt_mul (show 0 < v by omega) (show lo * 10000 < 10001 * v by omega); omega⟩
  have r1 : 0 ≤ oH ∧ oH ≤ 10000 := by
    rw [HoH.out]; exact ⟨upI_nonneg q1 (by omega), upI_le (by omega) (by omega)⟩
  have r2 : 0 ≤ vh ∧ vh ≤ 10000 := by rw [Hvh.out]; exact g.vapHi_range r1.1 r1.2
  have G := Lib.hid g; clear g
  go_enter Try.func55, Try.ntmps55
  go_upto_region 3 with (first | (go_at_call 70; refine (within_b _ _ _ _ H.out).mono ?_; rintro e w' ⟨rfl, rfl⟩) | (go_at_call 72; refine (need_ok _ _).mono ?_; rintro e w' ⟨rfl, rfl⟩))
  have K0 : (w.alloc (.cells #[.int .i64 0, .int .i64 0, .int .i64 0] 63)).cell? ⟨bs, 0, none⟩ = some (.int .i64 v) := (((Below.refl _ w).alloc (Nat.le_refl _) _).cell (p := ⟨bs, 0, none⟩) lt).trans c0
  have K1 : (w.alloc (.cells #[.int .i64 0, .int .i64 0, .int .i64 0] 63)).cell? ⟨bs, 1, none⟩ = some (.int .i64 lo) := (((Below.refl _ w).alloc (Nat.le_refl _) _).cell (p := ⟨bs, 1, none⟩) lt).trans c1
  have K2 : (w.alloc (.cells #[.int .i64 0, .int .i64 0, .int .i64 0] 63)).cell? ⟨bs, 2, none⟩ = some (.int .i64 hi) := (((Below.refl _ w).alloc (Nat.le_refl _) _).cell (p := ⟨bs, 2, none⟩) lt).trans c2
  have hW : w.heap.size + 1 = (w.alloc (.cells #[.int .i64 0, .int .i64 0, .int .i64 0] 63)).heap.size := by simp
  have hbW : Below w.heap.size w (w.alloc (.cells #[.int .i64 0, .int .i64 0, .int .i64 0] 63)) := (Below.refl _ w).alloc (Nat.le_refl _) _
  have kr : (w.alloc (.cells #[.int .i64 0, .int .i64 0, .int .i64 0] 63)).heap[w.heap.size]? = some (.cells #[.int .i64 0, .int .i64 0, .int .i64 0] 63 (0, 0)) := World.alloc_heap_new w _
  have KR := Lib.hid kr; clear kr
  generalize w.alloc (.cells #[.int .i64 0, .int .i64 0, .int .i64 0] 63) = W at *
  have ltW : bs < W.heap.size := by omega
  have HW := Lib.hid hW; clear hW
  have HbW := Lib.hid hbW; clear hbW
  clear c0 c1 c2 lt
  have ea := World.new_ne W _ K0
  go_cut [5] (fun s5 wx => ∃ B : Nat, s5 = .pointer (some ⟨B, 0, none⟩) ∧ wx.heap[B]? = some (.cells #[.int .i64 oL, .int .i64 oH] 23 (0, 0)) ∧ W.heap.size ≤ B ∧ Below W.heap.size W wx)
  case first =>
    go_region_held3 (fun w' => w'.cell? ⟨bs, 0, none⟩ = some (.int .i64 v) ∧ w'.cell? ⟨bs, 1, none⟩ = some (.int .i64 lo) ∧ w'.cell? ⟨bs, 2, none⟩ = some (.int .i64 hi))
      (first
        | go_keep
        | exact ⟨k0, k1, k2⟩
        | exact ⟨(World.cell?_alloc_lt _ _ _ kl).trans k0, (World.cell?_alloc_lt _ _ _ kl).trans k1, (World.cell?_alloc_lt _ _ _ kl).trans k2⟩
        | exact ⟨(World.cell?_setCell_far _ _ _ _ ea).trans k0, (World.cell?_setCell_far _ _ _ _ ea).trans k1, (World.cell?_setCell_far _ _ _ _ ea).trans k2⟩
        | exact ⟨(World.cell?_setCell_far _ _ _ _ ea).trans ((World.cell?_setCell_far _ _ _ _ ea).trans k0), (World.cell?_setCell_far _ _ _ _ ea).trans ((World.cell?_setCell_far _ _ _ _ ea).trans k1), (World.cell?_setCell_far _ _ _ _ ea).trans ((World.cell?_setCell_far _ _ _ _ ea).trans k2)⟩)
      (first
        | (go_at_call 73; refine (strong_pos _ _ _ ((W.alloc (.cells #[.int .i64 0, .int .i64 0] 23)).drew) (by omega) (by omega) (by omega) (by omega) (by omega) (by omega)).mono ?_; rintro e w1 ⟨rfl, hb1⟩
           have k0 : w1.cell? ⟨bs, 0, none⟩ = some (.int .i64 v) := (hb1.cell (p := ⟨bs, 0, none⟩) (by simp; omega)).trans ((World.cell?_alloc_lt _ _ _ ltW).trans K0)
           have k1 : w1.cell? ⟨bs, 1, none⟩ = some (.int .i64 lo) := (hb1.cell (p := ⟨bs, 1, none⟩) (by simp; omega)).trans ((World.cell?_alloc_lt _ _ _ ltW).trans K1)
           have k2 : w1.cell? ⟨bs, 2, none⟩ = some (.int .i64 hi) := (hb1.cell (p := ⟨bs, 2, none⟩) (by simp; omega)).trans ((World.cell?_alloc_lt _ _ _ ltW).trans K2)
           have kl : bs < w1.heap.size := World.block_lt_of_cell? w1 _ k0
           have n0 : w1.cell? ⟨W.heap.size, 0, none⟩ = some (.int .i64 0) := (hb1.cell (p := ⟨W.heap.size, 0, none⟩) (by simp)).trans (by simp)
           have n1 : w1.cell? ⟨W.heap.size, 1, none⟩ = some (.int .i64 0) := (hb1.cell (p := ⟨W.heap.size, 1, none⟩) (by simp)).trans (by simp)
           have n2 : w1.frozen? ⟨W.heap.size, 0, none⟩ = false := (hb1.frozen (p := ⟨W.heap.size, 0, none⟩) (by simp)).trans (by simp)
           have n3 : w1.frozen? ⟨W.heap.size, 1, none⟩ = false := (hb1.frozen (p := ⟨W.heap.size, 1, none⟩) (by simp)).trans (by simp))
        | (go_at_call 73; refine (strong_pos _ _ _ W.drew (by omega) (by omega) (by omega) (by omega) (by omega) (by omega)).mono ?_; rintro e w1 ⟨rfl, hb1⟩
           have k0 : w1.cell? ⟨bs, 0, none⟩ = some (.int .i64 v) := (hb1.cell (p := ⟨bs, 0, none⟩) ltW).trans (K0)
           have k1 : w1.cell? ⟨bs, 1, none⟩ = some (.int .i64 lo) := (hb1.cell (p := ⟨bs, 1, none⟩) ltW).trans (K1)
           have k2 : w1.cell? ⟨bs, 2, none⟩ = some (.int .i64 hi) := (hb1.cell (p := ⟨bs, 2, none⟩) ltW).trans (K2)
           have kl : bs < w1.heap.size := World.block_lt_of_cell? w1 _ k0))
    all_goals
      go_wp2_with fail
      go_meet
      rw [HoL.out, HoH.out]
      first
        | exact ⟨w1.heap.size, rfl, World.alloc_heap_new w1 _, hb1.size, ((Below.refl _ W).drew.trans hb1).alloc hb1.size _⟩
        | exact ⟨W.heap.size, rfl, block_set 1 _ (block_set 0 _ ((hb1.block W.heap.size (by simp)).trans (World.alloc_heap_new W _))), Nat.le_refl _, ((((Below.refl _ W).alloc (Nat.le_refl _) _).drew.trans (hb1.mono (by simp))).setCell (p := ⟨W.heap.size, 0, none⟩) (Nat.le_refl _) _).setCell (p := ⟨W.heap.size, 1, none⟩) (Nat.le_refl _) _⟩
  case rest =>
    obtain ⟨B', rfl, hbox, hBW, hbx⟩ := hcut
    have hS1 : StillBox wc bs v lo hi bc := HS.out.below (HbW.out.trans (hbx.mono HbW.out.size))
    have hC1 : CurveAt wc bc b off bv offv n cL cV L A B := HC.out.below (HbW.out.trans (hbx.mono HbW.out.size))
    have c0 := hS1.c0
    have c1 := hS1.c1
    have c2 := hS1.c2
    have c3 := hS1.c3
    have lt := hS1.lt
    have b0 : wc.cell? ⟨B', 0, none⟩ = some (.int .i64 oL) := by simp [World.cell?, hbox]
    have b1 : wc.cell? ⟨B', 1, none⟩ = some (.int .i64 oH) := by simp [World.cell?, hbox]
    have ltB : B' < wc.heap.size := (Array.getElem?_eq_some_iff.1 hbox).1
    have hr1 : wc.heap[w.heap.size]? = some (.cells #[.int .i64 0, .int .i64 0, .int .i64 0] 63 (0, 0)) := (hbx.block w.heap.size (by have := HW.out; omega)).trans KR.out
    have KR1 := Lib.hid hr1; clear hr1
    have HS1 := Lib.hid hS1; clear hS1
    have HC1 := Lib.hid hC1; clear hC1
    have Hbx := Lib.hid hbx; clear hbx hbox K0 K1 K2 ea
    obtain ⟨vl, Hvl⟩ : ∃ vl, Hid (vl = vapLo L A n oL) := ⟨_, Lib.hid rfl⟩
    have m0 : 0 ≤ d * vh := Int.mul_nonneg (by omega) r2.1
    have m1 : d * vh ≤ d * 10000 := Int.mul_le_mul_of_nonneg_left r2.2 (by omega)
    have V1 := Lib.hid (fun x => show Calls Try.prog 75 #[.pointer (some ⟨bc, 0, none⟩), .agg #[.int .i64 oL, .int .i64 oH]] (gw wc x) (fun e w' => e = .returned (.agg #[.int .i64 vl, .int .i64 vh]) ∧ ∃ x', w' = gw wc x') by
      rw [Hvl.out, Hvh.out]; exact Calls.gw_of (vapour_any bc b off bv offv n cL cV oL oH L A B _ G.out (HC1.out.gw x) r0.1 r0.2 r1.1 r1.2))
    have U1 := Lib.hid (fun x => show Calls Try.prog 74 #[.int .i64 (d * vh), .int .i64 10000] (gw wc x) (fun e w' => e = .returned (.int .i64 um) ∧ ∃ x', w' = gw wc x') by
      rw [Hum.out]; exact Calls.gw_of_same (up_any _ _ _ m0 (by omega) (by omega) (by omega)))
    have ru : 0 ≤ um ∧ um ≤ d := by rw [Hum.out]; exact ⟨upI_nonneg m0 (by omega), upI_le (by omega) (by omega)⟩
    have e1 : minZ hi um = mo := by rw [Hmo.out, minZ_eq]
    have rm : 0 ≤ mo ∧ mo ≤ hi ∧ mo ≤ d := by rw [Hmo.out]; omega
    have e2 : maxZ 0 (lo - mo) = st := by rw [Hst.out, maxZ_eq]
    have rs : 0 ≤ st ∧ st ≤ lo := by rw [Hst.out]; omega
    go_wp2_with fail
    refine wp_region_gw (by kernel_rfl) (by kernel_rfl) ?_
    repeat (go_big_quiet_step ((first | (go_at_call 75; exact V1.out _) | (go_at_call 74; exact U1.out _))))
    refine wpQuiet_nil ?_
    rintro _ ⟨x1, rfl⟩
    clear e1 V1 U1 Hvl
    go_wp2_with fail
    clear e2
    obtain ⟨ws, Hws⟩ : ∃ ws, Hid (ws = if v - d = 0 then 0 else st * 10000 / (v - d)) := ⟨_, Lib.hid rfl⟩
    obtain ⟨wz, V2⟩ : ∃ wz, Hid (∀ x, Calls Try.prog 73 #[.agg #[.int .i64 st, .int .i64 st], .int .i64 (v - d)] (gw wc x) (fun e w' => e = .returned (.agg #[.int .i64 ws, .int .i64 wz]) ∧ ∃ x', w' = gw wc x')) := by
      by_cases hz : v - d = 0
      · refine ⟨0, Lib.hid fun x => ?_⟩
        rw [Hws.out, if_pos hz, hz]; exact Calls.gw_of (strong_zero st st _)
      · refine ⟨upI (st * 10000) (v - d), Lib.hid fun x => ?_⟩
        rw [Hws.out, if_neg hz]; exact Calls.gw_of (strong_pos st st _ _ (by omega) (by omega) (by omega) (by omega) (by omega) (by omega))
    have rw0 : 0 ≤ ws := by
      rw [Hws.out]; split
      · omega
      · exact Int.ediv_nonneg (by omega) (by omega)
    have e3 : minZ oL ws = wk := by rw [Hwk.out, minZ_eq, Hws.out]
    have rk : 0 ≤ wk ∧ wk ≤ 10000 := by rw [← e3, minZ_eq]; omega
    have rt : 0 ≤ th ∧ th ≤ 10000 := by rw [Hth.out]; exact G.out.vapLo_range rk.1 rk.2
    refine wp_region_gw2 (by kernel_rfl) (by kernel_rfl) ?_
    repeat (go_big_quiet_step ((go_at_call 73; exact V2.out _)))
    refine wpQuiet_nil ?_
    rintro _ ⟨x2, rfl⟩
    clear e3 V2
    go_wp2_with fail
    obtain ⟨tz, Htz⟩ : ∃ tz, Hid (tz = vapHi L B n wk) := ⟨_, Lib.hid rfl⟩
    have V3 : Calls Try.prog 75 #[.pointer (some ⟨bc, 0, none⟩), .agg #[.int .i64 wk, .int .i64 wk]] (gw wc x2) (fun e w' => e = .returned (.agg #[.int .i64 th, .int .i64 tz]) ∧ ∃ x', w' = gw wc x') := by
      rw [Hth.out, Htz.out]; exact Calls.gw_of (vapour_any bc b off bv offv n cL cV wk wk L A B _ G.out (HC1.out.gw x2) rk.1 rk.2 rk.1 rk.2)
    refine V3.mono ?_
    clear V3
    rintro e w1 ⟨rfl, x3, rfl⟩
    have t0 : 0 ≤ d * th := Int.mul_nonneg (by omega) rt.1
    have t1 : d * th ≤ d * 10000 := Int.mul_le_mul_of_nonneg_left rt.2 (by omega)
    have e4 : maxZ (lo - (v - d)) (d * th / 10000) = ls := by rw [Hls.out, maxZ_eq]
    have rl : 0 ≤ ls ∧ ls ≤ 1073741824 := by rw [Hls.out]; omega
    have y0 : 0 ≤ hi * (v - d) := Int.mul_nonneg (by omega) (by omega)
    have y1 : hi * (v - d) ≤ 1073741824 * 1073741824 := Int.mul_le_mul (by omega) (by omega) (by omega) (by omega)
    have U3 := Lib.hid (fun x => show Calls Try.prog 74 #[.int .i64 (hi * (v - d)), .int .i64 v] (gw wc x) (fun e w' => e = .returned (.int .i64 u3) ∧ ∃ x', w' = gw wc x') by
      rw [Hu3.out]; exact Calls.gw_of_same (up_any _ _ _ y0 (by omega) (by omega) (by omega)))
    have e5 : minZ3 (hi - ls) (v - d) u3 = hg := by rw [Hhg.out, minZ3_eq]
    go_wp2_with fail
    clear e4
    refine wp_region_gw2 (by kernel_rfl) (by kernel_rfl) ?_
    repeat (go_big_quiet_step ((go_at_call 74; exact U3.out _)))
    refine wpQuiet_nil ?_
    rintro _ ⟨x4, rfl⟩
    clear e5 U3
    have hS2 : StillBox (gw wc x4) bs v lo hi bc := HS1.out.below (below_gw wc x4)
    have hR2 : (gw wc x4).heap[w.heap.size]? = some (.cells #[.int .i64 0, .int .i64 0, .int .i64 0] 63 (0, 0)) := (gw_block wc x4 _ (Array.getElem?_eq_some_iff.1 KR1.out).1).trans KR1.out
    have hG2 : w.grownBy (gw wc x4) (some bs) := grownBy_of_below (HbW.out.trans ((Hbx.out.gw x4).mono HbW.out.size)) _
    have hne : bs ≠ w.heap.size := Nat.ne_of_lt HS.out.lt
    have f0 := hS2.c0
    have f1 := hS2.c1
    have f2 := hS2.c2
    have g0 := hS2.fr 0
    have g1 := hS2.fr 1
    have g2 := hS2.fr 2
    have k0 : (gw wc x4).cell? ⟨w.heap.size, 0, none⟩ = some (.int .i64 0) := by simp [World.cell?, hR2]
    have k1 : (gw wc x4).cell? ⟨w.heap.size, 1, none⟩ = some (.int .i64 0) := by simp [World.cell?, hR2]
    have k2 : (gw wc x4).cell? ⟨w.heap.size, 2, none⟩ = some (.int .i64 0) := by simp [World.cell?, hR2]
    have l0 : (gw wc x4).frozen? ⟨w.heap.size, 0, none⟩ = false := by simp [World.frozen?, hR2]
    have l1 : (gw wc x4).frozen? ⟨w.heap.size, 1, none⟩ = false := by simp [World.frozen?, hR2]
    have l2 : (gw wc x4).frozen? ⟨w.heap.size, 2, none⟩ = false := by simp [World.frozen?, hR2]
    have HS2 := Lib.hid hS2; clear hS2
    have HR2 := Lib.hid hR2; clear hR2
    have HG2 := Lib.hid hG2; clear hG2
    generalize gw wc x4 = w5 at *
    clear c0 c1 c2 c3 b0 b1 lt ltB
    go_wp2_with fail
    refine bodyPost_ret (v := .agg #[.int .i64 d, .int .i64 ls, .int .i64 mo]) (by simp [results, Try.results55, go_sem, k0, k1, k2, hne, hne.symm]) rfl ⟨rfl, ?_, ?_⟩
    · exact (((HS2.out.set (v - d) st hg).other (Ne.symm hne) 0 _).other (Ne.symm hne) 1 _).other (Ne.symm hne) 2 _
    · exact grownBy_later (grownBy_later (grownBy_later (grownBy_trans (grownBy_trans (grownBy_trans HG2.out (grownBy_set _ bs 0 _)) (grownBy_set _ bs 1 _)) (grownBy_set _ bs 2 _)) 0 _) 1 _) 2 _
end Go.Proofs.Ytfefmgadfklgmaa.L4

namespace Go.Proofs.Ytfefmgadfklgmaa.L4
open Go.RowKit

theorem isCurve_any (aL aV : Option Addr) (n m cL cV : Nat) (L A B : Nat → Int) (w : World) (hn : n ≤ 1000000000000) (hm : m ≤ 1000000000000) (hL : IntsAt w aL n L) (hV : SpansAt w aV m A B) :
    Calls Try.prog 52 #[.agg #[.slice aL n cL, .slice aV m cV]] w fun e w' => e = .returned (.bool (curveB n m L A B)) ∧ Below w.heap.size w w' := by
  cases hd : headB n m L A with
  | false =>
    have : curveB n m L A B = false := by simp [curveB, hd]
    rw [this]; exact isCurve_head aL aV n m cL cV L A B w hn hm hL hV hd
  | true =>
    have h' := hd
    simp only [headB, Bool.and_eq_true, decide_eq_true_eq] at h'
    obtain ⟨h1, h2, _⟩ := h'
    have hr := inB_t.1 h1
    subst h2
    rcases hL with h0 | ⟨b, off, rfl, hbl, hc⟩
    · omega
    rcases hV with h0 | ⟨bv, offv, rfl, hbv, hcv⟩
    · omega
    exact isCurve_loop b off bv offv m cL cV L A B w hbl hbv hc hcv hd
theorem isCurve_b {c : Bool} (aL aV : Option Addr) (n m cL cV : Nat) (L A B : Nat → Int) (w : World) (hn : n ≤ 1000000000000) (hm : m ≤ 1000000000000) (hL : IntsAt w aL n L) (hV : SpansAt w aV m A B) (h : curveB n m L A B = c) :
    Calls Try.prog 52 #[.agg #[.slice aL n cL, .slice aV m cV]] w fun e w' => e = .returned (.bool c) ∧ Below w.heap.size w w' := h ▸ isCurve_any aL aV n m cL cV L A B w hn hm hL hV
theorem isPot_b {c : Bool} (v lo hi : Int) (w : World) (h : potB v lo hi = c) :
    Calls Try.prog 53 #[.agg #[.int .i64 v, .int .i64 lo, .int .i64 hi]] w fun e w' => e = .returned (.bool c) ∧ Below w.heap.size w w' := h ▸ isPot_any v lo hi w

/-- the errors ahead of a run's -/
def earlyE (n m : Nat) (L A B : Nat → Int) (v lo hi : Int) (k : Nat) : Int := if 64 < k then 3 else if curveB n m L A B && potB v lo hi then 0 else 1

set_option maxHeartbeats 1000000 in
theorem early_any (aL aV aM : Option Addr) (n m cL cV k cM : Nat) (L A B : Nat → Int) (v lo hi : Int) (w : World) (hn : n ≤ 1000000000000) (hm : m ≤ 1000000000000) (hk : k ≤ 1000000000000) (hL : IntsAt w aL n L) (hV : SpansAt w aV m A B) :
    Calls Try.prog 35 #[.agg #[.slice aL n cL, .slice aV m cV], .agg #[.int .i64 v, .int .i64 lo, .int .i64 hi], .slice aM k cM] w fun e w' => e = .returned (.int .i64 (earlyE n m L A B v lo hi k)) ∧ Below w.heap.size w w' := by
  have HL := Lib.hid hL; clear hL
  have HV := Lib.hid hV; clear hV
  by_cases h0 : 64 < k
  · have HE := Lib.hid (show earlyE n m L A B v lo hi k = 3 by unfold earlyE; rw [if_pos h0])
    go_enter Try.func35, Try.ntmps35
    go_wp2_with fail
    go_ret
    exact ⟨by rw [HE.out]; rfl, ((Below.refl _ w).alloc (Nat.le_refl _) _).alloc (by simp) _⟩
  · cases hc : curveB n m L A B with
    | false =>
      have HE := Lib.hid (show earlyE n m L A B v lo hi k = 1 by unfold earlyE; rw [if_neg h0, hc]; rfl)
      have H1 := Lib.hid hc; clear hc
      go_enter Try.func35, Try.ntmps35
      go_wp2_with fail
      have hB := ((Below.refl _ w).alloc (Nat.le_refl _) (.cells #[.slice aL n cL, .slice aV m cV] 34)).alloc (by simp) (.cells #[.int .i64 v, .int .i64 lo, .int .i64 hi] 58)
      refine (isCurve_b aL aV n m cL cV L A B _ hn hm (HL.out.below hB) (HV.out.below hB) H1.out).mono ?_
      rintro e w1 ⟨rfl, hb1⟩
      have HB := Lib.hid (hB.trans (hb1.mono hB.size)); clear hB
      go_wp2_with fail
      go_ret
      exact ⟨by rw [HE.out]; rfl, HB.out⟩
    | true =>
      cases hp : potB v lo hi with
      | false =>
        have HE := Lib.hid (show earlyE n m L A B v lo hi k = 1 by unfold earlyE; rw [if_neg h0, hc, hp]; rfl)
        have H1 := Lib.hid hc; clear hc
        have H2 := Lib.hid hp; clear hp
        go_enter Try.func35, Try.ntmps35
        go_wp2_with fail
        have hB := ((Below.refl _ w).alloc (Nat.le_refl _) (.cells #[.slice aL n cL, .slice aV m cV] 34)).alloc (by simp) (.cells #[.int .i64 v, .int .i64 lo, .int .i64 hi] 58)
        refine (isCurve_b aL aV n m cL cV L A B _ hn hm (HL.out.below hB) (HV.out.below hB) H1.out).mono ?_
        rintro e w1 ⟨rfl, hb1⟩
        have HB := Lib.hid (hB.trans (hb1.mono hB.size)); clear hB
        have b0 : w1.cell? ⟨w.heap.size + 1, 0, none⟩ = some (.int .i64 v) := (hb1.cell (p := ⟨w.heap.size + 1, 0, none⟩) (by simp)).trans (by simp)
        have b1 : w1.cell? ⟨w.heap.size + 1, 1, none⟩ = some (.int .i64 lo) := (hb1.cell (p := ⟨w.heap.size + 1, 1, none⟩) (by simp)).trans (by simp)
        have b2 : w1.cell? ⟨w.heap.size + 1, 2, none⟩ = some (.int .i64 hi) := (hb1.cell (p := ⟨w.heap.size + 1, 2, none⟩) (by simp)).trans (by simp)
        clear hb1
        go_wp2_with fail
        refine (isPot_b v lo hi _ H2.out).mono ?_
        rintro e w2 ⟨rfl, hb2⟩
        have HB2 := Lib.hid (HB.out.trans (hb2.mono HB.out.size)); clear hb2
        go_wp2_with fail
        go_ret
        exact ⟨by rw [HE.out]; rfl, HB2.out⟩
      | true =>
        have HE := Lib.hid (show earlyE n m L A B v lo hi k = 0 by unfold earlyE; rw [if_neg h0, hc, hp]; rfl)
        have H1 := Lib.hid hc; clear hc
        have H2 := Lib.hid hp; clear hp
        go_enter Try.func35, Try.ntmps35
        go_wp2_with fail
        have hB := ((Below.refl _ w).alloc (Nat.le_refl _) (.cells #[.slice aL n cL, .slice aV m cV] 34)).alloc (by simp) (.cells #[.int .i64 v, .int .i64 lo, .int .i64 hi] 58)
        refine (isCurve_b aL aV n m cL cV L A B _ hn hm (HL.out.below hB) (HV.out.below hB) H1.out).mono ?_
        rintro e w1 ⟨rfl, hb1⟩
        have HB := Lib.hid (hB.trans (hb1.mono hB.size)); clear hB
        have b0 : w1.cell? ⟨w.heap.size + 1, 0, none⟩ = some (.int .i64 v) := (hb1.cell (p := ⟨w.heap.size + 1, 0, none⟩) (by simp)).trans (by simp)
        have b1 : w1.cell? ⟨w.heap.size + 1, 1, none⟩ = some (.int .i64 lo) := (hb1.cell (p := ⟨w.heap.size + 1, 1, none⟩) (by simp)).trans (by simp)
        have b2 : w1.cell? ⟨w.heap.size + 1, 2, none⟩ = some (.int .i64 hi) := (hb1.cell (p := ⟨w.heap.size + 1, 2, none⟩) (by simp)).trans (by simp)
        clear hb1
        go_wp2_with fail
        refine (isPot_b v lo hi _ H2.out).mono ?_
        rintro e w2 ⟨rfl, hb2⟩
        have HB2 := Lib.hid (HB.out.trans (hb2.mono HB.out.size)); clear hb2
        go_wp2_with fail
        go_ret
        exact ⟨by rw [HE.out]; rfl, HB2.out⟩

set_option maxHeartbeats 400000 in
theorem all_any (bs : Nat) (aM : Option Addr) (k cM : Nat) (w : World) :
    Calls Try.prog 38 #[.pointer (some ⟨bs, 0, none⟩), .slice aM k cM] w fun e w' =>
      e = .returned (.func (.func 54) #[] #[.pointer (some ⟨w.heap.size + 1, 0, none⟩), .pointer (some ⟨w.heap.size, 0, none⟩)]) ∧ (w.alloc (.cells #[.pointer (some ⟨bs, 0, none⟩)] 123)).alloc (.cells #[.slice aM k cM] 29) = w' := by
  have hmf : ∀ (fn : Fn) (first cap : Array Value) (w : World), (Instr.makeFunc fn first cap).run Try.prog w = .ok (.func fn first cap) w := fun _ _ _ _ => rfl
  go_enter Try.func38, Try.ntmps38
  go_wp2
  go_ret
  exact ⟨rfl, rfl⟩

set_option maxHeartbeats 400000 in
theorem caught_nil (n : Int) (w : World) :
    Calls Try.prog 37 #[.nilIface, .int .i64 n] w fun e w' => e = .returned (.int .i64 n) ∧ w = w' := by
  go_enter Try.func37, Try.ntmps37
  go_wp2
  go_ret
  exact ⟨rfl, rfl⟩

set_option maxRecDepth 100000 in
set_option maxHeartbeats 400000 in
theorem caught_misfit (n k : Int) (w : World) :
    Calls Try.prog 37 #[.iface 122 (.agg #[.int .i64 k]), .int .i64 n] w fun e w' => e = .returned (.int .i64 k) ∧ Below w.heap.size w w' := by
  have hta : ∀ w, Sem.run Try.prog (Instr.typeAssert (.iface 122 (.agg #[.int .i64 k])) 20 122 true) w = .ok (.tuple #[.agg #[.int .i64 k], .bool true]) w := fun _ => by kernel_rfl
  go_enter Try.func37, Try.ntmps37
  go_wp2
  go_ret
  exact ⟨rfl, (Below.refl _ w).alloc (Nat.le_refl _) _⟩
end Go.Proofs.Ytfefmgadfklgmaa.L4
