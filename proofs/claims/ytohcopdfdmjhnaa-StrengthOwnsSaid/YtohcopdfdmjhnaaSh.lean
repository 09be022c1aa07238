/- Contracts of the tests whether a span fits a table, the reference's too. No conditions beyond each theorem's own. -/
import Derived.Test.YtohcopdfdmjhnaaSg
set_option linter.unusedVariables false
set_option linter.unusedSimpArgs false
set_option linter.unusedSectionVars false
set_option linter.constructorNameAsVariable false
namespace Go.Proofs.Ytohcopdfdmjhnaa.L1
open Go.RowKit
open Go.Proofs.Ytohcopdfdmjhnaa

attribute [local go_sem] gw_cell gw_frozen gw_size

def Tab.fitT (t : Tab) (lo hi : Int) : Bool := spanB lo hi (t.T 0) (t.T (t.nT - 1))
def Tab.fitS (t : Tab) (lo hi : Int) : Bool := spanB lo hi (t.S 0) (t.S (t.nS - 1))
theorem Tab.fitT_t {t : Tab} {lo hi : Int} (h : t.fitT lo hi = true) : t.tb.FitT lo hi := by
  obtain ⟨h1, h2, h3⟩ := spanB_t.1 h
  exact ⟨h1, h2, h3⟩
theorem Tab.fitS_t {t : Tab} {lo hi : Int} (h : t.fitS lo hi = true) : t.tb.FitS lo hi := by
  obtain ⟨h1, h2, h3⟩ := spanB_t.1 h
  exact ⟨h1, h2, h3⟩
theorem Tab.t_fitT {t : Tab} {lo hi : Int} (h : t.tb.FitT lo hi) : t.fitT lo hi = true := spanB_t.2 ⟨h.a, h.b, h.c⟩
theorem Tab.t_fitS {t : Tab} {lo hi : Int} (h : t.tb.FitS lo hi) : t.fitS lo hi = true := spanB_t.2 ⟨h.a, h.b, h.c⟩

set_option maxRecDepth 100000 in
set_option maxHeartbeats 2000000 in
theorem warm_any (t : Tab) (bt : Nat) (lo hi : Int) (w : World) (hI : t.In w) (h2 : 2 ≤ t.nT) (h32 : t.nT ≤ 32)
    (z0 : w.cell? ⟨bt, 0, none⟩ = some (.slice t.aT t.nT t.cT)) :
    Calls Try.prog 48 #[.pointer (some ⟨bt, 0, none⟩), .agg #[.int .i64 lo, .int .i64 hi]] w fun e w' => e = .returned (.bool (t.fitT lo hi)) ∧ Below w.heap.size w w' := by
  rcases hI.iT with h | ⟨b, off, ea, lb0, hc⟩
  · omega
  have x1 := hc 0 (by omega)
  have x2 := hc (t.nT - 1) (by omega)
  rw [Nat.add_zero] at x1
  have e1 : ((t.nT : Int) - 1).toNat = t.nT - 1 := by omega
  have HF := Lib.hid (show t.fitT lo hi = spanB lo hi (t.T 0) (t.T (t.nT - 1)) from rfl)
  obtain ⟨y1, hy1⟩ : ∃ y, t.T 0 = y := ⟨_, rfl⟩
  obtain ⟨y2, hy2⟩ : ∃ y, t.T (t.nT - 1) = y := ⟨_, rfl⟩
  rw [hy1, hy2] at HF
  rw [hy1] at x1
  rw [hy2] at x2
  clear hy1 hy2 hc hI
  have SB := Lib.hid (fun W => isSpan_b (b := spanB lo hi y1 y2) lo hi y1 y2 W rfl)
  rw [HF.out]
  clear HF
  generalize spanB lo hi y1 y2 = B at *
  rw [ea] at z0
  clear ea
  obtain ⟨W1, hW1⟩ : ∃ W1, w.alloc (.cells #[.int .i64 lo, .int .i64 hi] 27) = W1 := ⟨_, rfl⟩
  have hBc : Below w.heap.size w W1 := by rw [← hW1]; exact below_alloc _ _
  have zc0 : W1.heap[w.heap.size]? = some (.cells #[.int .i64 lo, .int .i64 hi] 27 (0, 0)) := by rw [← hW1]; exact alloc_at rfl
  have c00 : W1.cell? ⟨w.heap.size, 0, none⟩ = some (.int .i64 lo) := cell_of_block zc0 0 (by simp)
  have c01 : W1.cell? ⟨w.heap.size, 1, none⟩ = some (.int .i64 hi) := cell_of_block zc0 1 (by simp)
  have lc0 := (Array.getElem?_eq_some_iff.1 zc0).1
  clear zc0
  have HBc := Lib.hid hBc; clear hBc
  have HWc := Lib.hid hW1; clear hW1
  replace z0 := below_cell HBc.out z0
  have lbt := World.block_lt_of_cell? W1 _ z0
  dsimp only at lbt
  replace x1 := below_cell HBc.out x1
  replace x2 := below_cell HBc.out x2
  have lb1 := World.block_lt_of_cell? W1 _ x1
  dsimp only at lb1
  go_enter Try.func48, Try.ntmps48
  go_upto_region 1 with (fail)
  rw [HWc.out]
  refine wp_region_gw (by kernel_rfl) (by kernel_rfl) ?_
  repeat (go_big_quiet_step ((go_at_call 75; exact Calls.gw_of (SB.out _))))
  refine wpQuiet_nil ?_
  rintro _ ⟨v1, rfl⟩
  go_wp2_with fail
  go_ret
  exact ⟨rfl, HBc.out.gw v1⟩

theorem warm_b {b : Bool} (t : Tab) (bt : Nat) (lo hi : Int) (w : World) (hI : t.In w) (h2 : 2 ≤ t.nT) (h32 : t.nT ≤ 32) (z0 : w.cell? ⟨bt, 0, none⟩ = some (.slice t.aT t.nT t.cT)) (h : t.fitT lo hi = b) :
    Calls Try.prog 48 #[.pointer (some ⟨bt, 0, none⟩), .agg #[.int .i64 lo, .int .i64 hi]] w fun e w' => e = .returned (.bool b) ∧ Below w.heap.size w w' := h ▸ warm_any t bt lo hi w hI h2 h32 z0

set_option maxRecDepth 100000 in
set_option maxHeartbeats 2000000 in
theorem strong_any (t : Tab) (bt : Nat) (lo hi : Int) (w : World) (hI : t.In w) (h2 : 2 ≤ t.nS) (h32 : t.nS ≤ 32)
    (z0 : w.cell? ⟨bt, 1, none⟩ = some (.slice t.aS t.nS t.cS)) :
    Calls Try.prog 67 #[.pointer (some ⟨bt, 0, none⟩), .agg #[.int .i64 lo, .int .i64 hi]] w fun e w' => e = .returned (.bool (t.fitS lo hi)) ∧ Below w.heap.size w w' := by
  rcases hI.iS with h | ⟨b, off, ea, lb0, hc⟩
  · omega
  have x1 := hc 0 (by omega)
  have x2 := hc (t.nS - 1) (by omega)
  rw [Nat.add_zero] at x1
  have e1 : ((t.nS : Int) - 1).toNat = t.nS - 1 := by omega
  have HF := Lib.hid (show t.fitS lo hi = spanB lo hi (t.S 0) (t.S (t.nS - 1)) from rfl)
  obtain ⟨y1, hy1⟩ : ∃ y, t.S 0 = y := ⟨_, rfl⟩
  obtain ⟨y2, hy2⟩ : ∃ y, t.S (t.nS - 1) = y := ⟨_, rfl⟩
  rw [hy1, hy2] at HF
  rw [hy1] at x1
  rw [hy2] at x2
  clear hy1 hy2 hc hI
  have SB := Lib.hid (fun W => isSpan_b (b := spanB lo hi y1 y2) lo hi y1 y2 W rfl)
  rw [HF.out]
  clear HF
  generalize spanB lo hi y1 y2 = B at *
  rw [ea] at z0
  clear ea
  obtain ⟨W1, hW1⟩ : ∃ W1, w.alloc (.cells #[.int .i64 lo, .int .i64 hi] 27) = W1 := ⟨_, rfl⟩
  have hBc : Below w.heap.size w W1 := by rw [← hW1]; exact below_alloc _ _
  have zc0 : W1.heap[w.heap.size]? = some (.cells #[.int .i64 lo, .int .i64 hi] 27 (0, 0)) := by rw [← hW1]; exact alloc_at rfl
  have c00 : W1.cell? ⟨w.heap.size, 0, none⟩ = some (.int .i64 lo) := cell_of_block zc0 0 (by simp)
  have c01 : W1.cell? ⟨w.heap.size, 1, none⟩ = some (.int .i64 hi) := cell_of_block zc0 1 (by simp)
  have lc0 := (Array.getElem?_eq_some_iff.1 zc0).1
  clear zc0
  have HBc := Lib.hid hBc; clear hBc
  have HWc := Lib.hid hW1; clear hW1
  replace z0 := below_cell HBc.out z0
  have lbt := World.block_lt_of_cell? W1 _ z0
  dsimp only at lbt
  replace x1 := below_cell HBc.out x1
  replace x2 := below_cell HBc.out x2
  have lb1 := World.block_lt_of_cell? W1 _ x1
  dsimp only at lb1
  go_enter Try.func67, Try.ntmps67
  go_upto_region 1 with (fail)
  rw [HWc.out]
  refine wp_region_gw (by kernel_rfl) (by kernel_rfl) ?_
  repeat (go_big_quiet_step ((go_at_call 75; exact Calls.gw_of (SB.out _))))
  refine wpQuiet_nil ?_
  rintro _ ⟨v1, rfl⟩
  go_wp2_with fail
  go_ret
  exact ⟨rfl, HBc.out.gw v1⟩

theorem strong_b {b : Bool} (t : Tab) (bt : Nat) (lo hi : Int) (w : World) (hI : t.In w) (h2 : 2 ≤ t.nS) (h32 : t.nS ≤ 32) (z0 : w.cell? ⟨bt, 1, none⟩ = some (.slice t.aS t.nS t.cS)) (h : t.fitS lo hi = b) :
    Calls Try.prog 67 #[.pointer (some ⟨bt, 0, none⟩), .agg #[.int .i64 lo, .int .i64 hi]] w fun e w' => e = .returned (.bool b) ∧ Below w.heap.size w w' := h ▸ strong_any t bt lo hi w hI h2 h32 z0

set_option maxRecDepth 100000 in
set_option maxHeartbeats 2000000 in
theorem rTemp_any (t : Tab) (lo hi : Int) (w : World) (hI : t.In w) (h2 : 2 ≤ t.nT) (h32 : t.nT ≤ 32) :
    Calls Try.prog 18 #[t.val, .agg #[.int .i64 lo, .int .i64 hi]] w fun e w' => e = .returned (.bool (t.fitT lo hi)) ∧ Below w.heap.size w w' := by
  rcases hI.iT with h | ⟨b, off, ea, lb0, hc⟩
  · omega
  have x1 := hc 0 (by omega)
  have x2 := hc (t.nT - 1) (by omega)
  rw [Nat.add_zero] at x1
  have e1 : ((t.nT : Int) - 1).toNat = t.nT - 1 := by omega
  have HF := Lib.hid (show t.fitT lo hi = spanB lo hi (t.T 0) (t.T (t.nT - 1)) from rfl)
  obtain ⟨y1, hy1⟩ : ∃ y, t.T 0 = y := ⟨_, rfl⟩
  obtain ⟨y2, hy2⟩ : ∃ y, t.T (t.nT - 1) = y := ⟨_, rfl⟩
  rw [hy1, hy2] at HF
  rw [hy1] at x1
  rw [hy2] at x2
  clear hy1 hy2 hc hI
  have SB := Lib.hid (fun W => rwithin_b (b := spanB lo hi y1 y2) lo hi y1 y2 W rfl)
  rw [HF.out]
  clear HF
  generalize spanB lo hi y1 y2 = B at *
  unfold Tab.val
  rw [ea]
  clear ea
  obtain ⟨W1, hW1⟩ : ∃ W1, (w.alloc (.cells #[.slice (some ⟨b, off, none⟩) t.nT t.cT, .slice t.aS t.nS t.cS, .slice t.H.a t.H.n t.H.c, .slice t.R.a t.R.n t.R.c] 25)).alloc (.cells #[.int .i64 lo, .int .i64 hi] 27) = W1 := ⟨_, rfl⟩
  have hBc : Below w.heap.size w W1 := by rw [← hW1]; exact (below_alloc _ _).alloc (by simp) _
  have zc0 : W1.heap[w.heap.size]? = some (.cells #[.slice (some ⟨b, off, none⟩) t.nT t.cT, .slice t.aS t.nS t.cS, .slice t.H.a t.H.n t.H.c, .slice t.R.a t.R.n t.R.c] 25 (0, 0)) := by rw [← hW1]; exact alloc_keep (alloc_at rfl)
  have zc1 : W1.heap[w.heap.size + 1]? = some (.cells #[.int .i64 lo, .int .i64 hi] 27 (0, 0)) := by rw [← hW1]; exact alloc_at (by simp)
  have c00 : W1.cell? ⟨w.heap.size, 0, none⟩ = some (.slice (some ⟨b, off, none⟩) t.nT t.cT) := cell_of_block zc0 0 (by simp)
  have c01 : W1.cell? ⟨w.heap.size, 1, none⟩ = some (.slice t.aS t.nS t.cS) := cell_of_block zc0 1 (by simp)
  have c02 : W1.cell? ⟨w.heap.size, 2, none⟩ = some (.slice t.H.a t.H.n t.H.c) := cell_of_block zc0 2 (by simp)
  have c03 : W1.cell? ⟨w.heap.size, 3, none⟩ = some (.slice t.R.a t.R.n t.R.c) := cell_of_block zc0 3 (by simp)
  have c10 : W1.cell? ⟨w.heap.size + 1, 0, none⟩ = some (.int .i64 lo) := cell_of_block zc1 0 (by simp)
  have c11 : W1.cell? ⟨w.heap.size + 1, 1, none⟩ = some (.int .i64 hi) := cell_of_block zc1 1 (by simp)
  have lc0 := (Array.getElem?_eq_some_iff.1 zc0).1
  have lc1 := (Array.getElem?_eq_some_iff.1 zc1).1
  clear zc0 zc1
  have HBc := Lib.hid hBc; clear hBc
  have HWc := Lib.hid hW1; clear hW1
  replace x1 := below_cell HBc.out x1
  replace x2 := below_cell HBc.out x2
  have lb1 := World.block_lt_of_cell? W1 _ x1
  dsimp only at lb1
  go_enter Try.func18, Try.ntmps18
  go_upto_region 1 with (fail)
  rw [HWc.out]
  refine wp_region_gw (by kernel_rfl) (by kernel_rfl) ?_
  repeat (go_big_quiet_step ((go_at_call 58; exact Calls.gw_of (SB.out _))))
  refine wpQuiet_nil ?_
  rintro _ ⟨v1, rfl⟩
  go_wp2_with fail
  go_ret
  exact ⟨rfl, HBc.out.gw v1⟩

theorem rTemp_b {b : Bool} (t : Tab) (lo hi : Int) (w : World) (hI : t.In w) (h2 : 2 ≤ t.nT) (h32 : t.nT ≤ 32) (h : t.fitT lo hi = b) :
    Calls Try.prog 18 #[t.val, .agg #[.int .i64 lo, .int .i64 hi]] w fun e w' => e = .returned (.bool b) ∧ Below w.heap.size w w' := h ▸ rTemp_any t lo hi w hI h2 h32

set_option maxRecDepth 100000 in
set_option maxHeartbeats 2000000 in
theorem rStrong_any (t : Tab) (lo hi : Int) (w : World) (hI : t.In w) (h2 : 2 ≤ t.nS) (h32 : t.nS ≤ 32) :
    Calls Try.prog 19 #[t.val, .agg #[.int .i64 lo, .int .i64 hi]] w fun e w' => e = .returned (.bool (t.fitS lo hi)) ∧ Below w.heap.size w w' := by
  rcases hI.iS with h | ⟨b, off, ea, lb0, hc⟩
  · omega
  have x1 := hc 0 (by omega)
  have x2 := hc (t.nS - 1) (by omega)
  rw [Nat.add_zero] at x1
  have e1 : ((t.nS : Int) - 1).toNat = t.nS - 1 := by omega
  have HF := Lib.hid (show t.fitS lo hi = spanB lo hi (t.S 0) (t.S (t.nS - 1)) from rfl)
  obtain ⟨y1, hy1⟩ : ∃ y, t.S 0 = y := ⟨_, rfl⟩
  obtain ⟨y2, hy2⟩ : ∃ y, t.S (t.nS - 1) = y := ⟨_, rfl⟩
  rw [hy1, hy2] at HF
  rw [hy1] at x1
  rw [hy2] at x2
  clear hy1 hy2 hc hI
  have SB := Lib.hid (fun W => rwithin_b (b := spanB lo hi y1 y2) lo hi y1 y2 W rfl)
  rw [HF.out]
  clear HF
  generalize spanB lo hi y1 y2 = B at *
  unfold Tab.val
  rw [ea]
  clear ea
  obtain ⟨W1, hW1⟩ : ∃ W1, (w.alloc (.cells #[.slice t.aT t.nT t.cT, .slice (some ⟨b, off, none⟩) t.nS t.cS, .slice t.H.a t.H.n t.H.c, .slice t.R.a t.R.n t.R.c] 25)).alloc (.cells #[.int .i64 lo, .int .i64 hi] 27) = W1 := ⟨_, rfl⟩
  have hBc : Below w.heap.size w W1 := by rw [← hW1]; exact (below_alloc _ _).alloc (by simp) _
  have zc0 : W1.heap[w.heap.size]? = some (.cells #[.slice t.aT t.nT t.cT, .slice (some ⟨b, off, none⟩) t.nS t.cS, .slice t.H.a t.H.n t.H.c, .slice t.R.a t.R.n t.R.c] 25 (0, 0)) := by rw [← hW1]; exact alloc_keep (alloc_at rfl)
  have zc1 : W1.heap[w.heap.size + 1]? = some (.cells #[.int .i64 lo, .int .i64 hi] 27 (0, 0)) := by rw [← hW1]; exact alloc_at (by simp)
  have c00 : W1.cell? ⟨w.heap.size, 0, none⟩ = some (.slice t.aT t.nT t.cT) := cell_of_block zc0 0 (by simp)
  have c01 : W1.cell? ⟨w.heap.size, 1, none⟩ = some (.slice (some ⟨b, off, none⟩) t.nS t.cS) := cell_of_block zc0 1 (by simp)
  have c02 : W1.cell? ⟨w.heap.size, 2, none⟩ = some (.slice t.H.a t.H.n t.H.c) := cell_of_block zc0 2 (by simp)
  have c03 : W1.cell? ⟨w.heap.size, 3, none⟩ = some (.slice t.R.a t.R.n t.R.c) := cell_of_block zc0 3 (by simp)
  have c10 : W1.cell? ⟨w.heap.size + 1, 0, none⟩ = some (.int .i64 lo) := cell_of_block zc1 0 (by simp)
  have c11 : W1.cell? ⟨w.heap.size + 1, 1, none⟩ = some (.int .i64 hi) := cell_of_block zc1 1 (by simp)
  have lc0 := (Array.getElem?_eq_some_iff.1 zc0).1
  have lc1 := (Array.getElem?_eq_some_iff.1 zc1).1
  clear zc0 zc1
  have HBc := Lib.hid hBc; clear hBc
  have HWc := Lib.hid hW1; clear hW1
  replace x1 := below_cell HBc.out x1
  replace x2 := below_cell HBc.out x2
  have lb1 := World.block_lt_of_cell? W1 _ x1
  dsimp only at lb1
  go_enter Try.func19, Try.ntmps19
  go_upto_region 1 with (fail)
  rw [HWc.out]
  refine wp_region_gw (by kernel_rfl) (by kernel_rfl) ?_
  repeat (go_big_quiet_step ((go_at_call 58; exact Calls.gw_of (SB.out _))))
  refine wpQuiet_nil ?_
  rintro _ ⟨v1, rfl⟩
  go_wp2_with fail
  go_ret
  exact ⟨rfl, HBc.out.gw v1⟩

theorem rStrong_b {b : Bool} (t : Tab) (lo hi : Int) (w : World) (hI : t.In w) (h2 : 2 ≤ t.nS) (h32 : t.nS ≤ 32) (h : t.fitS lo hi = b) :
    Calls Try.prog 19 #[t.val, .agg #[.int .i64 lo, .int .i64 hi]] w fun e w' => e = .returned (.bool b) ∧ Below w.heap.size w w' := h ▸ rStrong_any t lo hi w hI h2 h32

end Go.Proofs.Ytohcopdfdmjhnaa.L1
