/- Contracts of small functions of package still. Contract of still.strong. Contracts of isPot, the two ends of a span, need. Contract of isCurve. Contract of slices.BinarySearch over a rising list. No conditions beyond each theorem's own. -/
import Derived.Test.YtfefmgadfklgmaaProg
import Derived.Test.YtfefmgadfklgmaaGz
import Derived.WalkKit
import Derived.WalkSpells
import Derived.WalkLawsBesides
import Derived.Lib.Hide
set_option linter.unusedVariables false
set_option linter.unusedSimpArgs false
set_option linter.unusedSectionVars false
set_option linter.constructorNameAsVariable false
namespace Go.Proofs.Ytfefmgadfklgmaa.L4
open Go.RowKit

set_option maxHeartbeats 400000 in
theorem within_any (n lo hi : Int) (w : World) :
    Calls Try.prog 70 #[.int .i64 n, .int .i64 lo, .int .i64 hi] w fun e w' => e = .returned (.bool (inB n lo hi)) ∧ w = w' := by
  by_cases h1 : lo ≤ n
  · by_cases h2 : n ≤ hi
    · have hb : inB n lo hi = true := by simp [inB, h1, h2]
      rw [hb]; clear hb
      go_enter Try.func70, Try.ntmps70
      go_wp2
      go_ret
      exact ⟨rfl, rfl⟩
    · have hb : inB n lo hi = false := by simp [inB, h2]
      rw [hb]; clear hb
      go_enter Try.func70, Try.ntmps70
      go_wp2
      go_ret
      exact ⟨rfl, rfl⟩
  · have hb : inB n lo hi = false := by simp [inB, h1]
    rw [hb]; clear hb
    go_enter Try.func70, Try.ntmps70
    go_wp2
    go_ret
    exact ⟨rfl, rfl⟩

set_option maxHeartbeats 400000 in
theorem isSpan_any (lo hi low high : Int) (w : World) :
    Calls Try.prog 71 #[.agg #[.int .i64 lo, .int .i64 hi], .int .i64 low, .int .i64 high] w fun e w' => e = .returned (.bool (spanB lo hi low high)) ∧ Below w.heap.size w w' := by
  by_cases h1 : low ≤ lo
  · by_cases h2 : lo ≤ hi
    · by_cases h3 : hi ≤ high
      · have hb : spanB lo hi low high = true := by simp [spanB, h1, h2, h3]
        rw [hb]; clear hb
        go_enter Try.func71, Try.ntmps71
        go_wp2
        go_ret
        exact ⟨rfl, (Below.refl _ _).alloc (Nat.le_refl _) _⟩
      · have hb : spanB lo hi low high = false := by simp [spanB, h3]
        rw [hb]; clear hb
        go_enter Try.func71, Try.ntmps71
        go_wp2
        go_ret
        exact ⟨rfl, (Below.refl _ _).alloc (Nat.le_refl _) _⟩
    · have hb : spanB lo hi low high = false := by simp [spanB, h2]
      rw [hb]; clear hb
      go_enter Try.func71, Try.ntmps71
      go_wp2
      go_ret
      exact ⟨rfl, (Below.refl _ _).alloc (Nat.le_refl _) _⟩
  · have hb : spanB lo hi low high = false := by simp [spanB, h1]
    rw [hb]; clear hb
    go_enter Try.func71, Try.ntmps71
    go_wp2
    go_ret
    exact ⟨rfl, (Below.refl _ _).alloc (Nat.le_refl _) _⟩

set_option maxHeartbeats 400000 in
theorem up_any (a b : Int) (w : World) (ha : 0 ≤ a) (ha2 : a ≤ 4000000000000000000) (hb : 1 ≤ b) (hb2 : b ≤ 4000000000000000000) :
    Calls Try.prog 74 #[.int .i64 a, .int .i64 b] w fun e w' => e = .returned (.int .i64 (upI a b)) ∧ w = w' := by
  unfold upI
  have h0 : ¬ b = 0 := by omega
  go_enter Try.func74, Try.ntmps74
  go_wp2
  go_ret
  exact ⟨rfl, rfl⟩
end Go.Proofs.Ytfefmgadfklgmaa.L4

namespace Go.Proofs.Ytfefmgadfklgmaa.L4
open Go.RowKit

attribute [local go_sem] gw_cell gw_frozen gw_size

set_option maxHeartbeats 1000000 in
theorem strong_pos (lo hi v : Int) (w : World) (h0 : 0 ≤ lo) (h1 : lo ≤ 10000000000000) (h2 : 0 ≤ hi) (h3 : hi ≤ 10000000000000) (h4 : 1 ≤ v) (h5 : v ≤ 10000000000000) :
    Calls Try.prog 73 #[.agg #[.int .i64 lo, .int .i64 hi], .int .i64 v] w fun e w' => e = .returned (.agg #[.int .i64 (lo * 10000 / v), .int .i64 (upI (hi * 10000) v)]) ∧ Below w.heap.size w w' := by
  have h6 : (v == 0) = false := by simp; omega
  go_enter Try.func73, Try.ntmps73
  go_wp2
  refine wp_region_gw_tail 11 (by kernel_rfl) (by kernel_rfl) ?_
  simp only [List.take_succ_cons, List.take_zero]
  repeat (go_big_quiet_step (((go_at_call 74; exact Calls.gw_of_same ((up_any _ _ _ (by omega) (by omega) (by omega) (by omega)))))))
  refine wpQuiet_nil ?_
  rintro _ ⟨x, rfl⟩
  simp only [List.drop_succ_cons, List.drop_zero]
  go_wp2
  refine bodyPost_ret (v := .agg #[.int .i64 (lo * 10000 / v), .int .i64 (upI (hi * 10000) v)]) (by simp [results, Try.results73, go_sem]) rfl ⟨rfl, ?_⟩
  exact ((((((Below.refl _ w).alloc (Nat.le_refl _) _).alloc (by simp) _).gw x).setCell (by simp) _).setCell (by simp) _)

set_option maxHeartbeats 400000 in
theorem strong_zero (lo hi : Int) (w : World) :
    Calls Try.prog 73 #[.agg #[.int .i64 lo, .int .i64 hi], .int .i64 0] w fun e w' => e = .returned (.agg #[.int .i64 0, .int .i64 0]) ∧ Below w.heap.size w w' := by
  go_enter Try.func73, Try.ntmps73
  go_wp2
  refine bodyPost_ret (v := .agg #[.int .i64 0, .int .i64 0]) (by simp [results, Try.results73, go_sem]) rfl ⟨rfl, ?_⟩
  exact (((Below.refl _ w).alloc (Nat.le_refl _) _).alloc (by simp) _)
end Go.Proofs.Ytfefmgadfklgmaa.L4

namespace Go.Proofs.Ytfefmgadfklgmaa.L4
open Go.RowKit

theorem within_b {b : Bool} (n lo hi : Int) (w : World) (h : inB n lo hi = b) :
    Calls Try.prog 70 #[.int .i64 n, .int .i64 lo, .int .i64 hi] w fun e w' => e = .returned (.bool b) ∧ w = w' := h ▸ within_any n lo hi w
theorem isSpan_b {b : Bool} (lo hi low high : Int) (w : World) (h : spanB lo hi low high = b) :
    Calls Try.prog 71 #[.agg #[.int .i64 lo, .int .i64 hi], .int .i64 low, .int .i64 high] w fun e w' => e = .returned (.bool b) ∧ Below w.heap.size w w' := h ▸ isSpan_any lo hi low high w

def potB (v lo hi : Int) : Bool := inB v 0 1073741824 && spanB lo hi 0 v

set_option maxHeartbeats 400000 in
theorem isPot_any (v lo hi : Int) (w : World) :
    Calls Try.prog 53 #[.agg #[.int .i64 v, .int .i64 lo, .int .i64 hi]] w fun e w' => e = .returned (.bool (potB v lo hi)) ∧ Below w.heap.size w w' := by
  cases h1 : inB v 0 1073741824 with
  | true =>
    cases h2 : spanB lo hi 0 v with
    | true =>
      have hb : potB v lo hi = true := by simp [potB, h1, h2]
      have H1 := Lib.hid h1; clear h1
      have H2 := Lib.hid h2; clear h2
      rw [hb]; clear hb
      go_enter Try.func53, Try.ntmps53
      go_wp2_with (first | (go_at_call 70; refine (within_b _ _ _ _ H1.out).mono ?_; rintro e w' ⟨rfl, rfl⟩) | (go_at_call 71; refine (isSpan_b _ _ _ _ _ H2.out).mono ?_; rintro e w1 ⟨rfl, hb1⟩))
      go_ret
      exact ⟨rfl, ((Below.refl _ _).alloc (Nat.le_refl _) _).trans (hb1.mono (by simp))⟩
    | false =>
      have hb : potB v lo hi = false := by simp [potB, h2]
      have H1 := Lib.hid h1; clear h1
      have H2 := Lib.hid h2; clear h2
      rw [hb]; clear hb
      go_enter Try.func53, Try.ntmps53
      go_wp2_with (first | (go_at_call 70; refine (within_b _ _ _ _ H1.out).mono ?_; rintro e w' ⟨rfl, rfl⟩) | (go_at_call 71; refine (isSpan_b _ _ _ _ _ H2.out).mono ?_; rintro e w1 ⟨rfl, hb1⟩))
      go_ret
      exact ⟨rfl, ((Below.refl _ _).alloc (Nat.le_refl _) _).trans (hb1.mono (by simp))⟩
  | false =>
    have hb : potB v lo hi = false := by simp [potB, h1]
    have H1 := Lib.hid h1; clear h1
    rw [hb]; clear hb
    go_enter Try.func53, Try.ntmps53
    go_wp2_with (first | (go_at_call 70; refine (within_b _ _ _ _ H1.out).mono ?_; rintro e w' ⟨rfl, rfl⟩))
    go_ret
    exact ⟨rfl, ((Below.refl _ _).alloc (Nat.le_refl _) _)⟩

set_option maxHeartbeats 400000 in
theorem lo_any (lo hi : Int) (w : World) :
    Calls Try.prog 79 #[.agg #[.int .i64 lo, .int .i64 hi]] w fun e w' => e = .returned (.int .i64 lo) ∧ Below w.heap.size w w' := by
  go_enter Try.func79, Try.ntmps79
  go_wp2
  go_ret
  exact ⟨rfl, ((Below.refl _ _).alloc (Nat.le_refl _) _)⟩
set_option maxHeartbeats 400000 in
theorem hi_any (lo hi : Int) (w : World) :
    Calls Try.prog 80 #[.agg #[.int .i64 lo, .int .i64 hi]] w fun e w' => e = .returned (.int .i64 hi) ∧ Below w.heap.size w w' := by
  go_enter Try.func80, Try.ntmps80
  go_wp2
  go_ret
  exact ⟨rfl, ((Below.refl _ _).alloc (Nat.le_refl _) _)⟩

set_option maxHeartbeats 400000 in
theorem need_ok (n : Int) (w : World) :
    Calls Try.prog 72 #[.bool true, .int .i64 n] w fun e w' => e = .returned (.tuple #[]) ∧ w = w' := by
  go_enter Try.func72, Try.ntmps72
  go_wp2
  go_end0
  exact ⟨rfl, rfl⟩

set_option maxHeartbeats 400000 in
theorem need_not (n : Int) (w : World) :
    Calls Try.prog 72 #[.bool false, .int .i64 n] w fun e w' => e = .panicked [{ v := .iface 122 (.agg #[.int .i64 n]), recovered := false }] ∧ w = w' := by
  go_enter Try.func72, Try.ntmps72
  go_wp2
  exact ⟨rfl, rfl, rfl⟩
end Go.Proofs.Ytfefmgadfklgmaa.L4

namespace Go.Proofs.Ytfefmgadfklgmaa.L4
open Go.RowKit

set_option maxHeartbeats 1000000 in
theorem isCurve_head (aL aV : Option Addr) (n m cL cV : Nat) (L A B : Nat → Int) (w : World) (hn : n ≤ 1000000000000) (hm : m ≤ 1000000000000) (hL : IntsAt w aL n L) (hV : SpansAt w aV m A B) (hd : headB n m L A = false) :
    Calls Try.prog 52 #[.agg #[.slice aL n cL, .slice aV m cV]] w fun e w' => e = .returned (.bool false) ∧ Below w.heap.size w w' := by
  cases h1 : inB n 2 32 with
  | false =>
    have H1 := Lib.hid h1; clear h1 hd hL hV
    go_enter Try.func52, Try.ntmps52
    go_wp2_with (go_at_call 70; refine (within_b _ _ _ _ H1.out).mono ?_; rintro e w' ⟨rfl, rfl⟩)
    go_ret
    exact ⟨rfl, ((Below.refl _ _).alloc (Nat.le_refl _) _)⟩
  | true =>
    have hr := inB_t.1 h1
    rcases hL with h0 | ⟨b, off, rfl, hbl, hc⟩
    · omega
    by_cases h2 : m = n
    · rcases hV with h0 | ⟨bv, offv, rfl, hbv, hcv⟩
      · omega
      subst h2
      have c0 := hc 0 (by omega)
      have c1 := hc (m - 1) (by omega)
      have v0 := (hcv 0 (by omega)).1
      simp only [Nat.zero_mul, Nat.add_zero] at c0 v0
      clear hc hcv
      have hm1 : ((m : Int) - 1).toNat = m - 1 := by omega
      have hne : ((m : Int) != (m : Int)) = false := by simp
      by_cases h3 : L 0 = 0
      · by_cases h4 : L (m - 1) = 10000
        · have h5 : ¬ A 0 = 0 := by intro h5; simp [headB, h1, h3, h4, h5] at hd
          rw [h3] at c0; rw [h4] at c1
          have hv : ((A 0) != 0) = true := by simp [h5]
          have H1 := Lib.hid h1; clear h1 hd h3 h4
          go_enter Try.func52, Try.ntmps52
          go_wp2_with (go_at_call 70; refine (within_b _ _ _ _ H1.out).mono ?_; rintro e w' ⟨rfl, rfl⟩)
          go_ret
          exact ⟨rfl, ((Below.refl _ _).alloc (Nat.le_refl _) _)⟩
        · rw [h3] at c0
          have hv : ((L (m - 1)) != 10000) = true := by simp [h4]
          have H1 := Lib.hid h1; clear h1 hd h3 v0
          go_enter Try.func52, Try.ntmps52
          go_wp2_with (go_at_call 70; refine (within_b _ _ _ _ H1.out).mono ?_; rintro e w' ⟨rfl, rfl⟩)
          go_ret
          exact ⟨rfl, ((Below.refl _ _).alloc (Nat.le_refl _) _)⟩
      · have hv : ((L 0) != 0) = true := by simp [h3]
        have H1 := Lib.hid h1; clear h1 hd v0 c1
        go_enter Try.func52, Try.ntmps52
        go_wp2_with (go_at_call 70; refine (within_b _ _ _ _ H1.out).mono ?_; rintro e w' ⟨rfl, rfl⟩)
        go_ret
        exact ⟨rfl, ((Below.refl _ _).alloc (Nat.le_refl _) _)⟩
    · have hv : ((m : Int) != (n : Int)) = true := by simp; omega
      have H1 := Lib.hid h1; clear h1 hd hc hV
      go_enter Try.func52, Try.ntmps52
      go_wp2_with (go_at_call 70; refine (within_b _ _ _ _ H1.out).mono ?_; rintro e w' ⟨rfl, rfl⟩)
      go_ret
      exact ⟨rfl, ((Below.refl _ _).alloc (Nat.le_refl _) _)⟩

attribute [local go_sem] gw_cell gw_frozen gw_size

set_option maxRecDepth 100000 in
set_option maxHeartbeats 4000000 in
theorem isCurve_loop (b off bv offv n cL cV : Nat) (L A B : Nat → Int) (w : World) (hbl : b < w.heap.size) (hbv : bv < w.heap.size)
    (hc : ∀ i, i < n → w.cell? ⟨b, off + i, none⟩ = some (.int .i64 (L i)))
    (hcv : ∀ i, i < n → w.cell? ⟨bv, offv + i * 2, none⟩ = some (.int .i64 (A i)) ∧ w.cell? ⟨bv, offv + i * 2 + 1, none⟩ = some (.int .i64 (B i)))
    (hd : headB n n L A = true) :
    Calls Try.prog 52 #[.agg #[.slice (some ⟨b, off, none⟩) n cL, .slice (some ⟨bv, offv, none⟩) n cV]] w fun e w' => e = .returned (.bool (curveB n n L A B)) ∧ Below w.heap.size w w' := by
  have HD := Lib.hid hd
  have HC := Lib.hid hc
  have HCV := Lib.hid hcv
  simp only [headB, Bool.and_eq_true, decide_eq_true_eq] at hd
  obtain ⟨h1, _, h3, h4, h5⟩ := hd
  have hr := inB_t.1 h1
  have c0 := hc 0 (by omega)
  have c1 := hc (n - 1) (by omega)
  have v0 := (hcv 0 (by omega)).1
  simp only [Nat.zero_mul, Nat.add_zero] at c0 v0
  clear hc hcv
  have hm1 : ((n : Int) - 1).toNat = n - 1 := by omega
  have hne : ((n : Int) != (n : Int)) = false := by simp
  rw [h3] at c0; rw [h4] at c1; rw [h5] at v0
  have H1 := Lib.hid h1; clear h1 h3 h4 h5
  go_enter Try.func52, Try.ntmps52
  go_wp2_with (go_at_call 70; refine (within_b _ _ _ _ H1.out).mono ?_; rintro e w' ⟨rfl, rfl⟩)
  have HW : Hid (∃ W : World, W = w.alloc (.cells #[.slice (some ⟨b, off, none⟩) n cL, .slice (some ⟨bv, offv, none⟩) n cV] 34)) := Lib.hid ⟨_, rfl⟩
  clear c0 c1 v0 hm1 hne
  go_loopw [46] (fun i wr => ∃ k : Nat, k ≤ n ∧ i = .int .i64 k ∧ (∀ j, j < k → okB L A B j = true) ∧ Below (w.heap.size + 1) (w.alloc (.cells #[.slice (some ⟨b, off, none⟩) n cL, .slice (some ⟨bv, offv, none⟩) n cV] 34)) wr) (fun i _ => n - (intOf i).toNat)
  case atStart => exact ⟨0, Nat.zero_le _, rfl, fun _ h => by omega, Below.refl _ _⟩
  case round =>
    obtain ⟨k, hk, rfl, hok, hB⟩ := hrel
    have HOK := Lib.hid hok; clear hok
    have hsz : w.heap.size + 1 ≤ wr.heap.size := by have := hB.size; simpa using this
    have hBw : Below w.heap.size w wr := ((Below.refl _ w).alloc (Nat.le_refl _) _).trans (hB.mono (by omega))
    have cs0 : wr.cell? ⟨w.heap.size, 0, none⟩ = some (.slice (some ⟨b, off, none⟩) n cL) := (hB.cell (p := ⟨w.heap.size, 0, none⟩) (by simp)).trans (by simp)
    have cs1 : wr.cell? ⟨w.heap.size, 1, none⟩ = some (.slice (some ⟨bv, offv, none⟩) n cV) := (hB.cell (p := ⟨w.heap.size, 1, none⟩) (by simp)).trans (by simp)
    by_cases hlt : k < n
    · have lk : wr.cell? ⟨b, off + k, none⟩ = some (.int .i64 (L k)) := (hBw.cell (p := ⟨b, off + k, none⟩) hbl).trans (HC.out k hlt)
      have ak : wr.cell? ⟨bv, offv + k * 2, none⟩ = some (.int .i64 (A k)) := (hBw.cell (p := ⟨bv, offv + k * 2, none⟩) hbv).trans (HCV.out k hlt).1
      have bk : wr.cell? ⟨bv, offv + k * 2 + 1, none⟩ = some (.int .i64 (B k)) := (hBw.cell (p := ⟨bv, offv + k * 2 + 1, none⟩) hbv).trans (HCV.out k hlt).2
      go_wp2
      have hW1 : Below wr.heap.size wr (wr.alloc (.cells #[.int .i64 (A k), .int .i64 (B k)] 23)) := (Below.refl _ wr).alloc (Nat.le_refl _) _
      have hz1 : (wr.alloc (.cells #[.int .i64 (A k), .int .i64 (B k)] 23)).heap.size = wr.heap.size + 1 := by simp
      have d0 : (wr.alloc (.cells #[.int .i64 (A k), .int .i64 (B k)] 23)).cell? ⟨wr.heap.size, 0, none⟩ = some (.int .i64 (A k)) := by simp
      have d1 : (wr.alloc (.cells #[.int .i64 (A k), .int .i64 (B k)] 23)).cell? ⟨wr.heap.size, 1, none⟩ = some (.int .i64 (B k)) := by simp
      generalize wr.alloc (.cells #[.int .i64 (A k), .int .i64 (B k)] 23) = W1 at *
      have cs0' : W1.cell? ⟨w.heap.size, 0, none⟩ = some (.slice (some ⟨b, off, none⟩) n cL) := (hW1.cell (p := ⟨w.heap.size, 0, none⟩) (by simp; omega)).trans cs0
      have cs1' : W1.cell? ⟨w.heap.size, 1, none⟩ = some (.slice (some ⟨bv, offv, none⟩) n cV) := (hW1.cell (p := ⟨w.heap.size, 1, none⟩) (by simp; omega)).trans cs1
      have lk' : W1.cell? ⟨b, off + k, none⟩ = some (.int .i64 (L k)) := (hW1.cell (p := ⟨b, off + k, none⟩) (by simp; omega)).trans lk
      have z1 : w.heap.size < W1.heap.size := by omega
      have z2 : b < W1.heap.size := by omega
      have z3 : wr.heap.size < W1.heap.size := by omega
      have HBw := Lib.hid hBw
      have HW1 := Lib.hid hW1
      clear cs0 cs1 lk ak bk hBw hW1 hz1
      cases hs : spanB (A k) (B k) (L k) 10000 with
      | false =>
        have HS := Lib.hid hs; clear hs
        refine wp_region_gw (by kernel_rfl) (by kernel_rfl) ?_
        repeat (go_big_quiet_step (((go_at_call 71; exact Calls.gw_of (isSpan_b _ _ _ _ _ HS.out)))))
        refine wpQuiet_nil ?_
        rintro _ ⟨x, rfl⟩
        go_wp2
        go_ret
        exact ⟨by rw [curveB_not hlt (okB_span HS.out)]; rfl, HBw.out.trans ((HW1.out.gw x).mono HBw.out.size)⟩
      | true =>
        have HS := Lib.hid hs; clear hs
        refine wp_region_gw (by kernel_rfl) (by kernel_rfl) ?_
        repeat (go_big_quiet_step (((go_at_call 71; exact Calls.gw_of (isSpan_b _ _ _ _ _ HS.out)))))
        refine wpQuiet_nil ?_
        rintro _ ⟨x, rfl⟩
        have hB2 : Below w.heap.size w (gw W1 x) := HBw.out.trans ((HW1.out.gw x).mono HBw.out.size)
        have hB3 : Below (w.heap.size + 1) (w.alloc (.cells #[.slice (some ⟨b, off, none⟩) n cL, .slice (some ⟨bv, offv, none⟩) n cV] 34)) (gw W1 x) := hB.trans ((HW1.out.gw x).mono (by omega))
        have e0 : (gw W1 x).cell? ⟨wr.heap.size, 0, none⟩ = some (.int .i64 (A k)) := (gw_cell (by simp; omega)).trans d0
        have e1 : (gw W1 x).cell? ⟨wr.heap.size, 1, none⟩ = some (.int .i64 (B k)) := (gw_cell (by simp; omega)).trans d1
        have f0 : (gw W1 x).cell? ⟨w.heap.size, 0, none⟩ = some (.slice (some ⟨b, off, none⟩) n cL) := (gw_cell (by simp; omega)).trans cs0'
        have f1 : (gw W1 x).cell? ⟨w.heap.size, 1, none⟩ = some (.slice (some ⟨bv, offv, none⟩) n cV) := (gw_cell (by simp; omega)).trans cs1'
        have g0 : (gw W1 x).cell? ⟨b, off + k, none⟩ = some (.int .i64 (L k)) := (gw_cell (by simp; omega)).trans lk'
        have zz : W1.heap.size ≤ (gw W1 x).heap.size := by simp [gw_size]
        generalize gw W1 x = w2 at *
        have z1' : w.heap.size < w2.heap.size := by omega
        have z2' : b < w2.heap.size := by omega
        have z3' : wr.heap.size < w2.heap.size := by omega
        have z4' : bv < w2.heap.size := by omega
        clear d0 d1 cs0' cs1' lk' z1 z2 z3 zz
        by_cases hk0 : 0 < k
        · have g1 : w2.cell? ⟨b, off + (k - 1), none⟩ = some (.int .i64 (L (k - 1))) := (hB2.cell (p := ⟨b, off + (k - 1), none⟩) hbl).trans (HC.out (k - 1) (by omega))
          have g2 : w2.cell? ⟨bv, offv + (k - 1) * 2, none⟩ = some (.int .i64 (A (k - 1))) := (hB2.cell (p := ⟨bv, offv + (k - 1) * 2, none⟩) hbv).trans (HCV.out (k - 1) (by omega)).1
          have g3 : w2.cell? ⟨bv, offv + (k - 1) * 2 + 1, none⟩ = some (.int .i64 (B (k - 1))) := (hB2.cell (p := ⟨bv, offv + (k - 1) * 2 + 1, none⟩) hbv).trans (HCV.out (k - 1) (by omega)).2
          have HB2 := Lib.hid hB2; clear hB2
          have HB3 := Lib.hid hB3; clear hB3
          have i1 : ((k : Int) - 1).toNat = k - 1 := by omega
          by_cases t1 : L k ≤ L (k - 1)
          · have HT := Lib.hid (show stepB L A B k = true by simp [stepB, t1])
            have t1' : decide (L k ≤ L (k - 1)) = true := by simp [t1]
            go_wp2
            refine wp_region_gw (by kernel_rfl) (by kernel_rfl) ?_
            repeat (go_big_quiet_step ((fail)))
            refine wpQuiet_nil ?_
            rintro _ ⟨y, rfl⟩
            go_wp2
            go_ret
            exact ⟨by rw [curveB_not hlt (okB_step hk0 HT.out)]; rfl, HB2.out.gw y⟩
          · have t1' : decide (L k ≤ L (k - 1)) = false := by simp [t1]
            by_cases t2 : A k < A (k - 1)
            · have HT := Lib.hid (show stepB L A B k = true by simp [stepB, t2])
              have t2' : decide (A k < A (k - 1)) = true := by simp [t2]
              go_wp2
              refine wp_region_gw (by kernel_rfl) (by kernel_rfl) ?_
              repeat (go_big_quiet_step ((fail)))
              refine wpQuiet_nil ?_
              rintro _ ⟨y, rfl⟩
              go_wp2
              go_ret
              exact ⟨by rw [curveB_not hlt (okB_step hk0 HT.out)]; rfl, HB2.out.gw y⟩
            · have t2' : decide (A k < A (k - 1)) = false := by simp [t2]
              by_cases t3 : B k < B (k - 1)
              · have HT := Lib.hid (show stepB L A B k = true by simp [stepB, t3])
                have t3' : decide (B k < B (k - 1)) = true := by simp [t3]
                go_wp2
                refine wp_region_gw (by kernel_rfl) (by kernel_rfl) ?_
                repeat (go_big_quiet_step ((fail)))
                refine wpQuiet_nil ?_
                rintro _ ⟨y, rfl⟩
                go_wp2
                go_ret
                exact ⟨by rw [curveB_not hlt (okB_step hk0 HT.out)]; rfl, HB2.out.gw y⟩
              · have t3' : decide (B k < B (k - 1)) = false := by simp [t3]
                have HT := Lib.hid (okB_good HS.out (show stepB L A B k = false by simp [stepB]; omega))
                go_wp2
                refine wp_region_gw (by kernel_rfl) (by kernel_rfl) ?_
                repeat (go_big_quiet_step ((fail)))
                refine wpQuiet_nil ?_
                rintro _ ⟨y, rfl⟩
                go_wp2
                go_roundw
                case rel => exact ⟨k + 1, by omega, by go_num, all_succ HOK.out HT.out, HB3.out.trans ((below_gw w2 y).mono (by omega))⟩
                case measure => simp [intOf]; omega
        · have HB3 := Lib.hid hB3; clear hB3
          have HT := Lib.hid (okB_zero (show k = 0 by omega) HS.out)
          have t0 : decide ((0 : Int) < (k : Int)) = false := by simp; omega
          have t0' : decide (0 < k) = false := by simp; omega
          go_wp2
          refine wp_region_gw (by kernel_rfl) (by kernel_rfl) ?_
          repeat (go_big_quiet_step ((fail)))
          refine wpQuiet_nil ?_
          rintro _ ⟨y, rfl⟩
          go_wp2
          go_roundw
          case rel => exact ⟨k + 1, by omega, by go_num, all_succ HOK.out HT.out, HB3.out.trans ((below_gw w2 y).mono (by omega))⟩
          case measure => simp [intOf]; omega
    · go_wp2
      go_ret
      obtain rfl : k = n := by omega
      have := curveB_all HD.out HOK.out
      exact ⟨by rw [this]; rfl, ((Below.refl _ w).alloc (Nat.le_refl _) _).trans (hB.mono (by omega))⟩
end Go.Proofs.Ytfefmgadfklgmaa.L4

namespace Go.Proofs.Ytfefmgadfklgmaa.L4
open Go.RowKit

set_option maxHeartbeats 400000 in
theorem less_any (a b : Int) (w : World) :
    Calls Try.prog 81 #[.int .i64 a, .int .i64 b] w fun e w' => e = .returned (.bool (decide (a < b))) ∧ w = w' := by
  have hn : (a != a) = false := by simp
  go_enter Try.func81, Try.ntmps81
  go_wp2
  go_ret
  exact ⟨rfl, rfl⟩
theorem less_b {c : Bool} (a b : Int) (w : World) (h : decide (a < b) = c) :
    Calls Try.prog 81 #[.int .i64 a, .int .i64 b] w fun e w' => e = .returned (.bool c) ∧ w = w' := h ▸ less_any a b w

set_option maxRecDepth 100000 in
set_option maxHeartbeats 1000000 in
theorem search_any (b off n c : Nat) (x : Int) (L : Nat → Int) (w : World) (hn : n ≤ 1000000000000)
    (hc : ∀ i, i < n → w.cell? ⟨b, off + i, none⟩ = some (.int .i64 (L i))) (hmon : ∀ s t, s ≤ t → t < n → L s ≤ L t) :
    Calls Try.prog 77 #[.slice (some ⟨b, off, none⟩) n c, .int .i64 x] w fun e w' => e = .returned (.tuple #[.int .i64 (lb L x n), .bool (foundB L x n)]) ∧ w = w' := by
  have HC := Lib.hid hc; clear hc
  have HM := Lib.hid hmon; clear hmon
  go_enter Try.func77, Try.ntmps77
  go_wp2
  go_loop [7, 8] (fun p q => ∃ i j : Nat, i ≤ j ∧ j ≤ n ∧ p = .int .i64 i ∧ q = .int .i64 j ∧ (∀ t, t < i → L t < x) ∧ (j < n → x ≤ L j)) (fun p q => (intOf q - intOf p).toNat)
  case atStart => exact ⟨0, n, Nat.zero_le _, Nat.le_refl _, rfl, rfl, fun _ h => by omega, fun h => by omega⟩
  case round =>
    obtain ⟨i, j, hij, hjn, rfl, rfl, h1, h2⟩ := hrel
    have K1 := Lib.hid h1; clear h1
    have K2 := Lib.hid h2; clear h2
    by_cases hlt : i < j
    · have cm := HC.out ((i + j) / 2) (by omega)
      cases hx : decide (L ((i + j) / 2) < x) with
      | true =>
        have HX := Lib.hid hx; clear hx
        go_wp2_with (go_at_call 81; refine (less_b _ _ _ HX.out).mono ?_; rintro e w' ⟨rfl, rfl⟩)
        go_round
        case rel => exact ⟨(i + j) / 2 + 1, j, by omega, by omega, by go_num, rfl, fun t ht => Int.lt_of_le_of_lt (HM.out t ((i + j) / 2) (by omega) (by omega)) (of_decide_eq_true HX.out), K2.out⟩
        case measure => simp [intOf]; omega
      | false =>
        have HX := Lib.hid hx; clear hx
        go_wp2_with (go_at_call 81; refine (less_b _ _ _ HX.out).mono ?_; rintro e w' ⟨rfl, rfl⟩)
        go_round
        case rel => exact ⟨i, (i + j) / 2, by omega, by omega, rfl, by go_num, K1.out, fun _ => Int.not_lt.1 (of_decide_eq_false HX.out)⟩
        case measure => simp [intOf]; omega
    · obtain rfl : i = j := by omega
      have HI := Lib.hid (lb_unique hjn K1.out (fun h => Int.not_lt.2 (K2.out h)))
      by_cases hin : i < n
      · have ci := HC.out i hin
        by_cases hx : L i = x
        · have HF := Lib.hid (show foundB L x n = true by unfold foundB; rw [← HI.out]; simp [hin, hx])
          have hx' : ((L i) == x) = true := by simp [hx]
          clear hx
          go_wp2
          go_ret2
          exact ⟨by rw [HF.out, ← HI.out]; rfl, rfl⟩
        · have HF := Lib.hid (show foundB L x n = false by unfold foundB; rw [← HI.out]; simp [hx])
          have hx' : ((L i) == x) = false := by simp [hx]
          have hn1 : ((L i) != (L i)) = false := by simp
          clear hx
          go_wp2
          go_ret2
          exact ⟨by rw [HF.out, ← HI.out]; rfl, rfl⟩
      · have HF := Lib.hid (show foundB L x n = false by unfold foundB; rw [← HI.out]; simp [hin])
        go_wp2
        go_ret2
        exact ⟨by rw [HF.out, ← HI.out]; rfl, rfl⟩
end Go.Proofs.Ytfefmgadfklgmaa.L4
