/- Contracts of the law's inner, has, leaves; plain laws of what leaves. No conditions beyond each theorem's own. -/
import Derived.Test.YtljofnmgddfljaaCe
import Derived.Test.YtljofnmgddfljaaEc
set_option linter.unusedVariables false
set_option linter.unusedSimpArgs false
set_option linter.unusedSectionVars false
set_option linter.constructorNameAsVariable false
namespace Go.Proofs.Ytljofnmgddfljaa
open Go.RowKit

attribute [local go_sem] gw_cell gw_frozen gw_size

set_option maxHeartbeats 1000000 in
theorem inner_one (lo hi b : Int) (w : World) (h0 : -1000000000000000 ≤ lo) (h1 : lo ≤ hi) (h2 : hi ≤ 1000000000000000) (h3 : 0 ≤ b) (h4 : b ≤ 4294967295) :
    Calls Try.prog 20 #[.agg #[.int .i64 lo, .int .i64 hi], .int .u32 b] w fun e w' => e = .returned (.int .i64 (innerI lo hi b)) ∧ Below w.heap.size w w' := by
  have hr := innerI_range (b := b) h1
  unfold innerI at hr ⊢
  have hz : ¬ hi - lo + 1 = 0 := by omega
  go_enter Try.func20, Try.ntmps20
  go_wp2_with fail
  refine wp_region_gw (by kernel_rfl) (by kernel_rfl) ?_
  repeat (go_big_quiet_step (fail))
  refine wpQuiet_nil ?_
  rintro _ ⟨z, rfl⟩
  go_wp2_with fail
  go_ret
  exact ⟨rfl, ((Below.refl _ w).alloc (Nat.le_refl _) _).gw z⟩

set_option maxHeartbeats 1000000 in
theorem has_true (lo hi n : Int) (w : World) (h0 : lo ≤ n) (h1 : n ≤ hi) :
    Calls Try.prog 30 #[.agg #[.int .i64 lo, .int .i64 hi], .int .i64 n] w fun e w' => e = .returned (.bool true) ∧ Below w.heap.size w w' := by
  go_enter Try.func30, Try.ntmps30
  go_wp2
  go_ret
  exact ⟨rfl, below_alloc _ _⟩

/-- the least and the most that can leave -/
def goLo (n sl : Int) : Int := (n * sl + 1000000000 - 1) / 1000000000
def goHi (n sh : Int) : Int := n * sh / 1000000000
/-- what is left behind a day; whether it can be said -/
def leavesV (n sl sh b : Int) : Int := if goHi n sh < goLo n sl then n else n - innerI (goLo n sl) (goHi n sh) b
def leavesB (n sl sh : Int) : Bool := !decide (goHi n sh < goLo n sl)
theorem go_range {n sl sh : Int} (h0 : 0 ≤ n) (h2 : n ≤ 2147483648) (h3 : 0 ≤ sl) (h4 : sl ≤ sh) (h5 : sh ≤ 100000000) : 0 ≤ goLo n sl ∧ goLo n sl ≤ 2147483648 ∧ 0 ≤ goHi n sh ∧ goHi n sh ≤ n := by
  have m1 : 0 ≤ n * sl := Int.mul_nonneg h0 h3
  have m2 : n * sl ≤ 2147483648 * 100000000 := Int.mul_le_mul h2 (by omega) h3 (by omega)
  have m3 : 0 ≤ n * sh := Int.mul_nonneg h0 (by omega)
  have m4 : n * sh ≤ n * 100000000 := Int.mul_le_mul_of_nonneg_left h5 h0
  unfold goLo goHi
  omega
theorem leavesV_range {n sl sh b : Int} (h0 : 0 ≤ n) (h2 : n ≤ 2147483648) (h3 : 0 ≤ sl) (h4 : sl ≤ sh) (h5 : sh ≤ 100000000) : 0 ≤ leavesV n sl sh b ∧ leavesV n sl sh b ≤ n := by
  obtain ⟨g0, g1, g2, g3⟩ := go_range h0 h2 h3 h4 h5
  unfold leavesV
  split
  · omega
  · have := innerI_range (b := b) (show goLo n sl ≤ goHi n sh by omega)
    omega
/-- what is left is within what must be left -/
theorem leavesV_in {n sl sh b lo hi : Int} (hl : leavesB n sl sh = true) (h0 : 0 ≤ n) (h2 : n ≤ 2147483648) (h3 : 0 ≤ sl) (h4 : sl ≤ sh) (h5 : sh ≤ 100000000) (h6 : 0 ≤ lo) (h7 : lo ≤ n) (h8 : n ≤ hi) :
    leftLo lo sh ≤ leavesV n sl sh b ∧ leavesV n sl sh b ≤ leftHi hi sl := by
  have hg : ¬ goHi n sh < goLo n sl := by simpa [leavesB] using hl
  have hi := innerI_range (b := b) (show goLo n sl ≤ goHi n sh by omega)
  have a1 := leftLo_mono (sh := sh) h7 (by omega)
  have a2 := leftHi_mono (sl := sl) h8 (by omega)
  have b1 : leftLo n sh ≤ n - goHi n sh := by
    unfold leftLo goHi
    rw [Int.mul_sub]
    omega
  have b2 : n - goLo n sl ≤ leftHi n sl := by
    unfold leftHi goLo upI
    rw [Int.mul_sub]
    omega
  unfold leavesV
  rw [if_neg hg]
  omega

set_option maxRecDepth 100000 in
set_option maxHeartbeats 2000000 in
theorem leaves_any (n sl sh b : Int) (w : World) (h0 : 0 ≤ n) (h2 : n ≤ 2147483648) (h3 : 0 ≤ sl) (h4 : sl ≤ sh) (h5 : sh ≤ 100000000) (hb0 : 0 ≤ b) (hb1 : b ≤ 4294967295) :
    Calls Try.prog 61 #[.int .i64 n, .agg #[.int .i64 sl, .int .i64 sh], .int .u32 b] w fun e w' => e = .returned (.tuple #[.int .i64 (leavesV n sl sh b), .bool (leavesB n sl sh)]) ∧ Below w.heap.size w w' := by
  have m1 : 0 ≤ n * sl := Int.mul_nonneg h0 h3
  have m2 : n * sl ≤ 2147483648 * 100000000 := Int.mul_le_mul h2 (by omega) h3 (by omega)
  have m3 : 0 ≤ n * sh := Int.mul_nonneg h0 (by omega)
  have m4 : n * sh ≤ 2147483648 * 100000000 := Int.mul_le_mul h2 h5 (by omega) (by omega)
  obtain ⟨g0, g1, g2, g3⟩ := go_range h0 h2 h3 h4 h5
  have IN := fun W (h : goLo n sl ≤ goHi n sh) => inner_one (goLo n sl) (goHi n sh) b W (by omega) h (by omega) hb0 hb1
  have IR := fun (h : goLo n sl ≤ goHi n sh) => innerI_range (b := b) h
  have LV : leavesV n sl sh b = if goHi n sh < goLo n sl then n else n - innerI (goLo n sl) (goHi n sh) b := rfl
  have LB : leavesB n sl sh = !decide (goHi n sh < goLo n sl) := rfl
  rw [LV, LB]
  unfold goHi goLo at *
  clear LV LB
  obtain ⟨W1, hW1⟩ : ∃ W1, w.alloc (.cells #[.int .i64 sl, .int .i64 sh] 26) = W1 := ⟨_, rfl⟩
  have hBc : Below w.heap.size w W1 := by rw [← hW1]; exact below_alloc _ _
  have zc0 : W1.heap[w.heap.size]? = some (.cells #[.int .i64 sl, .int .i64 sh] 26 (0, 0)) := by rw [← hW1]; exact alloc_at rfl
  have c00 : W1.cell? ⟨w.heap.size, 0, none⟩ = some (.int .i64 sl) := cell_of_block zc0 0 (by simp)
  have c01 : W1.cell? ⟨w.heap.size, 1, none⟩ = some (.int .i64 sh) := cell_of_block zc0 1 (by simp)
  have lc0 := (Array.getElem?_eq_some_iff.1 zc0).1
  clear zc0
  have HBc := Lib.hid hBc; clear hBc
  have HWc := Lib.hid hW1; clear hW1
  by_cases hlh : n * sh / 1000000000 < (n * sl + 1000000000 - 1) / 1000000000
  · rw [if_pos hlh, decide_eq_true hlh]
    clear IN IR
    go_enter Try.func61, Try.ntmps61
    go_wp2_with fail
    rw [HWc.out]
    refine wp_region_gw (by kernel_rfl) (by kernel_rfl) ?_
    repeat (go_big_quiet_step (fail))
    refine wpQuiet_nil ?_
    rintro _ ⟨z, rfl⟩
    go_wp2_with fail
    refine bodyPost_ret (v := .tuple #[.int .i64 n, .bool false]) (by simp [results, Try.results61, go_sem, *]) rfl ⟨rfl, ?_⟩
    exact HBc.out.gw z
  · rw [if_neg hlh, decide_eq_false hlh]
    have IN' := fun W => Lib.hid (IN W (by omega))
    obtain ⟨r0, r1⟩ := IR (by omega)
    clear IN IR
    generalize innerI ((n * sl + 1000000000 - 1) / 1000000000) (n * sh / 1000000000) b = v at *
    go_enter Try.func61, Try.ntmps61
    go_wp2_with fail
    rw [HWc.out]
    refine wp_region_gw (by kernel_rfl) (by kernel_rfl) ?_
    repeat (go_big_quiet_step (fail))
    refine wpQuiet_nil ?_
    rintro _ ⟨z, rfl⟩
    go_wp2_with fail
    refine (Calls.gw_of (IN' _).out).mono ?_
    rintro e w1 ⟨rfl, y, rfl⟩
    go_wp2_with fail
    refine bodyPost_ret (v := .tuple #[.int .i64 (n - v), .bool true]) (by simp [results, Try.results61, go_sem, *]) rfl ⟨rfl, ?_⟩
    exact HBc.out.gw y
end Go.Proofs.Ytljofnmgddfljaa
