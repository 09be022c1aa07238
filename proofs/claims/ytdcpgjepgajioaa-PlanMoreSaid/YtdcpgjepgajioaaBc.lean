/- Contracts of isLaying, areLots. No conditions beyond each theorem's own. -/
import Derived.Test.YtdcpgjepgajioaaBb
set_option linter.unusedVariables false
set_option linter.unusedSimpArgs false
set_option linter.unusedSectionVars false
set_option linter.constructorNameAsVariable false
namespace Go.Proofs.Ytdcpgjepgajioaa
open Go.RowKit

attribute [local go_sem] gw_cell gw_frozen gw_size

set_option maxRecDepth 100000 in
set_option maxHeartbeats 4000000 in
theorem isLaying_any (o : Otl) (y : Lyg) (w : World) (hO : o.In w) (hn : 1 ≤ o.nP) (hp : o.pN 0 ≤ 9223372036854775807) (hI : y.In w) (hf : y.Fits) :
    Calls Try.prog 31 #[o.val, y.val] w fun e w' => e = .returned (.bool (layB o y)) ∧ Below w.heap.size w w' := by
  unfold Otl.val Lyg.val
  obtain ⟨W1, hW1⟩ : ∃ W1, (w.alloc (.cells #[.slice o.aS o.nS o.cS, .int .i64 o.kl, .int .i64 o.kh, .slice o.aA o.nA o.cA, .slice o.aP o.nP o.cP] 27)).alloc (.cells #[.slice y.aR y.nR y.cR, .slice y.aM y.nM y.cM, .int .i64 y.lot, .int .i64 y.room] 29) = W1 := ⟨_, rfl⟩
  have hBc : Below w.heap.size w W1 := by rw [← hW1]; exact (below_alloc _ _).alloc (by simp) _
  have zc0 : W1.heap[w.heap.size]? = some (.cells #[.slice o.aS o.nS o.cS, .int .i64 o.kl, .int .i64 o.kh, .slice o.aA o.nA o.cA, .slice o.aP o.nP o.cP] 27 (0, 0)) := by rw [← hW1]; exact alloc_keep (alloc_at rfl)
  have zc1 : W1.heap[w.heap.size + 1]? = some (.cells #[.slice y.aR y.nR y.cR, .slice y.aM y.nM y.cM, .int .i64 y.lot, .int .i64 y.room] 29 (0, 0)) := by rw [← hW1]; exact alloc_at (by simp)
  have c00 : W1.cell? ⟨w.heap.size, 0, none⟩ = some (.slice o.aS o.nS o.cS) := cell_of_block zc0 0 (by simp)
  have c01 : W1.cell? ⟨w.heap.size, 1, none⟩ = some (.int .i64 o.kl) := cell_of_block zc0 1 (by simp)
  have c02 : W1.cell? ⟨w.heap.size, 2, none⟩ = some (.int .i64 o.kh) := cell_of_block zc0 2 (by simp)
  have c03 : W1.cell? ⟨w.heap.size, 3, none⟩ = some (.slice o.aA o.nA o.cA) := cell_of_block zc0 3 (by simp)
  have c04 : W1.cell? ⟨w.heap.size, 4, none⟩ = some (.slice o.aP o.nP o.cP) := cell_of_block zc0 4 (by simp)
  have c10 : W1.cell? ⟨w.heap.size + 1, 0, none⟩ = some (.slice y.aR y.nR y.cR) := cell_of_block zc1 0 (by simp)
  have c11 : W1.cell? ⟨w.heap.size + 1, 1, none⟩ = some (.slice y.aM y.nM y.cM) := cell_of_block zc1 1 (by simp)
  have c12 : W1.cell? ⟨w.heap.size + 1, 2, none⟩ = some (.int .i64 y.lot) := cell_of_block zc1 2 (by simp)
  have c13 : W1.cell? ⟨w.heap.size + 1, 3, none⟩ = some (.int .i64 y.room) := cell_of_block zc1 3 (by simp)
  have lc0 := (Array.getElem?_eq_some_iff.1 zc0).1
  have lc1 := (Array.getElem?_eq_some_iff.1 zc1).1
  clear zc0 zc1
  have HBc := Lib.hid hBc; clear hBc
  have HWc := Lib.hid hW1; clear hW1
  have fR := hf.nR
  have fM := hf.nM
  have HI := Lib.hid (hI.below HBc.out)
  rcases (hO.below HBc.out).iP with h0 | ⟨b, off, ea, lb, hc⟩
  · omega
  have q0 := hc 0 (by omega)
  simp only [Nat.add_zero] at q0
  rw [ea] at c04
  have lt0 : 0 < o.nP := by omega
  clear hc hI hf hO
  rw [ea]
  rw [ea] at HWc
  unfold layB
  by_cases h0 : y.nR = o.pN 0
  rotate_left
  · rw [no_and (by simpa using h0)]
    have d0 : ((y.nR : Int) == (o.pN 0 : Int)) = false := by simp; omega
    go_enter Try.func31, Try.ntmps31
    go_upto_region 1 with (fail)
    rw [HWc.out]
    go_upto_region 2 with (fail)
    refine wp_region_steps (fun w' => ∃ x, w' = gw W1 x) [([0, 1, 3], 2), ([4, 5, 6, 7, 9], 8), ([10, 11, 12, 13, 14], 15), ([], 16), ([17, 18, 19, 20], 21), ([], 22)] [23, 24] [] (by kernel_rfl) (by kernel_rfl) ?_
    rintro _ ⟨x0, rfl⟩
    refine ⟨⟨_, rfl⟩, ?_⟩
    refine wpSeg_cons ?_
    simp only [pickL, List.getElem?_cons_zero, List.getElem?_cons_succ]
    repeat (go_big_quiet_step (fail))
    refine wpQuiet_nil ?_
    go_wp2_with fail
    refine contQ_now ⟨⟨_, rfl⟩, ?_⟩
    refine wpSeg_cons ?_
    simp only [pickL, List.getElem?_cons_zero, List.getElem?_cons_succ]
    repeat (go_big_quiet_step (fail))
    refine wpQuiet_nil ?_
    go_wp2_with fail
    refine contQ_now ⟨⟨_, rfl⟩, ?_⟩
    refine wpSeg_cons ?_
    simp only [pickL, List.getElem?_cons_zero, List.getElem?_cons_succ]
    repeat (go_big_quiet_step (fail))
    refine wpQuiet_nil ?_
    go_wp2_with fail
    refine contQ_now ⟨⟨_, rfl⟩, ?_⟩
    refine wpSeg_cons ?_
    simp only [pickL, List.getElem?_cons_zero, List.getElem?_cons_succ]
    repeat (go_big_quiet_step (fail))
    refine wpQuiet_nil ?_
    go_wp2_with fail
    refine contQ_now ⟨⟨_, rfl⟩, ?_⟩
    refine wpSeg_cons ?_
    simp only [pickL, List.getElem?_cons_zero, List.getElem?_cons_succ]
    repeat (go_big_quiet_step (fail))
    refine wpQuiet_nil ?_
    go_wp2_with fail
    refine contQ_now ⟨⟨_, rfl⟩, ?_⟩
    refine wpSeg_cons ?_
    simp only [pickL, List.getElem?_cons_zero, List.getElem?_cons_succ]
    repeat (go_big_quiet_step (fail))
    refine wpQuiet_nil ?_
    go_wp2_with fail
    refine contQ_now ⟨⟨_, rfl⟩, ?_⟩
    refine wpSeg_nil ?_
    simp only [pickL, List.getElem?_cons_zero, List.getElem?_cons_succ]
    repeat (go_big_quiet_step (fail))
    refine wpQuiet_nil ?_
    refine contN_nil ?_
    go_wp2_with fail
    go_ret
    exact ⟨rfl, HBc.out.gw x0⟩
  rw [of_and (by simpa using h0) rfl]
  have d0 : ((y.nR : Int) == (o.pN 0 : Int)) = true := by simp; omega
  have H0 := Lib.hid h0; clear h0
  by_cases h1 : y.nM = o.pN 0
  rotate_left
  · rw [no_and (by simpa using h1)]
    have d1 : ((y.nM : Int) == (o.pN 0 : Int)) = false := by simp; omega
    go_enter Try.func31, Try.ntmps31
    go_upto_region 1 with (fail)
    rw [HWc.out]
    go_upto_region 2 with (fail)
    refine wp_region_steps (fun w' => ∃ x, w' = gw W1 x) [([0, 1, 3], 2), ([4, 5, 6, 7, 9], 8), ([10, 11, 12, 13, 14], 15), ([], 16), ([17, 18, 19, 20], 21), ([], 22)] [23, 24] [] (by kernel_rfl) (by kernel_rfl) ?_
    rintro _ ⟨x0, rfl⟩
    refine ⟨⟨_, rfl⟩, ?_⟩
    refine wpSeg_cons ?_
    simp only [pickL, List.getElem?_cons_zero, List.getElem?_cons_succ]
    repeat (go_big_quiet_step (fail))
    refine wpQuiet_nil ?_
    go_wp2_with fail
    refine contQ_now ⟨⟨_, rfl⟩, ?_⟩
    refine wpSeg_cons ?_
    simp only [pickL, List.getElem?_cons_zero, List.getElem?_cons_succ]
    repeat (go_big_quiet_step (fail))
    refine wpQuiet_nil ?_
    go_wp2_with fail
    refine contQ_now ⟨⟨_, rfl⟩, ?_⟩
    refine wpSeg_cons ?_
    simp only [pickL, List.getElem?_cons_zero, List.getElem?_cons_succ]
    repeat (go_big_quiet_step (fail))
    refine wpQuiet_nil ?_
    go_wp2_with fail
    refine contQ_now ⟨⟨_, rfl⟩, ?_⟩
    refine wpSeg_cons ?_
    simp only [pickL, List.getElem?_cons_zero, List.getElem?_cons_succ]
    repeat (go_big_quiet_step (fail))
    refine wpQuiet_nil ?_
    go_wp2_with fail
    refine contQ_now ⟨⟨_, rfl⟩, ?_⟩
    refine wpSeg_cons ?_
    simp only [pickL, List.getElem?_cons_zero, List.getElem?_cons_succ]
    repeat (go_big_quiet_step (fail))
    refine wpQuiet_nil ?_
    go_wp2_with fail
    refine contQ_now ⟨⟨_, rfl⟩, ?_⟩
    refine wpSeg_cons ?_
    simp only [pickL, List.getElem?_cons_zero, List.getElem?_cons_succ]
    repeat (go_big_quiet_step (fail))
    refine wpQuiet_nil ?_
    go_wp2_with fail
    refine contQ_now ⟨⟨_, rfl⟩, ?_⟩
    refine wpSeg_nil ?_
    simp only [pickL, List.getElem?_cons_zero, List.getElem?_cons_succ]
    repeat (go_big_quiet_step (fail))
    refine wpQuiet_nil ?_
    refine contN_nil ?_
    go_wp2_with fail
    go_ret
    exact ⟨rfl, HBc.out.gw x0⟩
  rw [of_and (by simpa using h1) rfl]
  have d1 : ((y.nM : Int) == (o.pN 0 : Int)) = true := by simp; omega
  have H1 := Lib.hid h1; clear h1
  cases e2 : allB y.nR (fun i => inB (y.R i) 0 1073741824)
  · rw [no_and rfl]
    have E2 := Lib.hid e2; clear e2
    go_enter Try.func31, Try.ntmps31
    go_upto_region 1 with (fail)
    rw [HWc.out]
    go_upto_region 2 with (fail)
    refine wp_region_steps (fun w' => ∃ x, w' = gw W1 x) [([0, 1, 3], 2), ([4, 5, 6, 7, 9], 8), ([10, 11, 12, 13, 14], 15), ([], 16), ([17, 18, 19, 20], 21), ([], 22)] [23, 24] [] (by kernel_rfl) (by kernel_rfl) ?_
    rintro _ ⟨x0, rfl⟩
    refine ⟨⟨_, rfl⟩, ?_⟩
    refine wpSeg_cons ?_
    simp only [pickL, List.getElem?_cons_zero, List.getElem?_cons_succ]
    repeat (go_big_quiet_step (fail))
    refine wpQuiet_nil ?_
    go_wp2_with fail
    refine contQ_now ⟨⟨_, rfl⟩, ?_⟩
    refine wpSeg_cons ?_
    simp only [pickL, List.getElem?_cons_zero, List.getElem?_cons_succ]
    repeat (go_big_quiet_step (fail))
    refine wpQuiet_nil ?_
    go_wp2_with fail
    refine contQ_now ⟨⟨_, rfl⟩, ?_⟩
    refine wpSeg_cons ?_
    simp only [pickL, List.getElem?_cons_zero, List.getElem?_cons_succ]
    repeat (go_big_quiet_step (fail))
    refine wpQuiet_nil ?_
    go_wp2_with fail
    rename_i KK hKK
    refine (upTo_any _ _).mono ?_
    rintro e w1 ⟨bb, rfl, hbx, hb⟩
    have HU := Lib.hid (allUp y.aR y.nR y.cR y.R 1073741824 bb w1 (by omega) (HI.out.iR.below (thru hb (below_gw W1 x0))) hbx)
    rw [E2.out] at HU
    obtain ⟨x1, hx1⟩ := gw_of_below (thru hb (below_gw W1 x0))
    clear hbx hb
    subst hx1
    refine hKK _ _ (contQ_nil ⟨⟨_, rfl⟩, ?_⟩)
    clear hKK KK
    refine wpSeg_cons ?_
    simp only [pickL, List.getElem?_cons_zero, List.getElem?_cons_succ]
    repeat (go_big_quiet_step (fail))
    refine wpQuiet_nil ?_
    go_wp2_with fail
    rename_i KK hKK
    refine HU.out.mono ?_
    rintro e w2 ⟨rfl, hb⟩
    obtain ⟨x2, hx2⟩ := gw_of_below (thru hb (below_gw W1 x1))
    clear hb
    subst hx2
    refine hKK _ _ (contQ_nil ⟨⟨_, rfl⟩, ?_⟩)
    clear hKK KK HU
    refine wpSeg_cons ?_
    simp only [pickL, List.getElem?_cons_zero, List.getElem?_cons_succ]
    repeat (go_big_quiet_step (fail))
    refine wpQuiet_nil ?_
    go_wp2_with fail
    refine contQ_now ⟨⟨_, rfl⟩, ?_⟩
    refine wpSeg_cons ?_
    simp only [pickL, List.getElem?_cons_zero, List.getElem?_cons_succ]
    repeat (go_big_quiet_step (fail))
    refine wpQuiet_nil ?_
    go_wp2_with fail
    refine contQ_now ⟨⟨_, rfl⟩, ?_⟩
    refine wpSeg_nil ?_
    simp only [pickL, List.getElem?_cons_zero, List.getElem?_cons_succ]
    repeat (go_big_quiet_step (fail))
    refine wpQuiet_nil ?_
    refine contN_nil ?_
    go_wp2_with fail
    go_ret
    exact ⟨rfl, HBc.out.gw x2⟩
  rw [of_and rfl rfl]
  have E2 := Lib.hid e2; clear e2
  cases e3 : allB y.nM (fun i => inB (y.M i) 0 8)
  · rw [no_and rfl]
    have E3 := Lib.hid e3; clear e3
    go_enter Try.func31, Try.ntmps31
    go_upto_region 1 with (fail)
    rw [HWc.out]
    go_upto_region 2 with (fail)
    refine wp_region_steps (fun w' => ∃ x, w' = gw W1 x) [([0, 1, 3], 2), ([4, 5, 6, 7, 9], 8), ([10, 11, 12, 13, 14], 15), ([], 16), ([17, 18, 19, 20], 21), ([], 22)] [23, 24] [] (by kernel_rfl) (by kernel_rfl) ?_
    rintro _ ⟨x0, rfl⟩
    refine ⟨⟨_, rfl⟩, ?_⟩
    refine wpSeg_cons ?_
    simp only [pickL, List.getElem?_cons_zero, List.getElem?_cons_succ]
    repeat (go_big_quiet_step (fail))
    refine wpQuiet_nil ?_
    go_wp2_with fail
    refine contQ_now ⟨⟨_, rfl⟩, ?_⟩
    refine wpSeg_cons ?_
    simp only [pickL, List.getElem?_cons_zero, List.getElem?_cons_succ]
    repeat (go_big_quiet_step (fail))
    refine wpQuiet_nil ?_
    go_wp2_with fail
    refine contQ_now ⟨⟨_, rfl⟩, ?_⟩
    refine wpSeg_cons ?_
    simp only [pickL, List.getElem?_cons_zero, List.getElem?_cons_succ]
    repeat (go_big_quiet_step (fail))
    refine wpQuiet_nil ?_
    go_wp2_with fail
    rename_i KK hKK
    refine (upTo_any _ _).mono ?_
    rintro e w1 ⟨bb, rfl, hbx, hb⟩
    have HU := Lib.hid (allUp y.aR y.nR y.cR y.R 1073741824 bb w1 (by omega) (HI.out.iR.below (thru hb (below_gw W1 x0))) hbx)
    rw [E2.out] at HU
    obtain ⟨x1, hx1⟩ := gw_of_below (thru hb (below_gw W1 x0))
    clear hbx hb
    subst hx1
    refine hKK _ _ (contQ_nil ⟨⟨_, rfl⟩, ?_⟩)
    clear hKK KK
    refine wpSeg_cons ?_
    simp only [pickL, List.getElem?_cons_zero, List.getElem?_cons_succ]
    repeat (go_big_quiet_step (fail))
    refine wpQuiet_nil ?_
    go_wp2_with fail
    rename_i KK hKK
    refine HU.out.mono ?_
    rintro e w2 ⟨rfl, hb⟩
    obtain ⟨x2, hx2⟩ := gw_of_below (thru hb (below_gw W1 x1))
    clear hb
    subst hx2
    refine hKK _ _ (contQ_nil ⟨⟨_, rfl⟩, ?_⟩)
    clear hKK KK HU
    refine wpSeg_cons ?_
    simp only [pickL, List.getElem?_cons_zero, List.getElem?_cons_succ]
    repeat (go_big_quiet_step (fail))
    refine wpQuiet_nil ?_
    go_wp2_with fail
    rename_i KK hKK
    refine (upTo_any _ _).mono ?_
    rintro e w1 ⟨bb, rfl, hbx, hb⟩
    have HU := Lib.hid (allUp y.aM y.nM y.cM y.M 8 bb w1 (by omega) (HI.out.iM.below (thru hb (below_gw W1 x2))) hbx)
    rw [E3.out] at HU
    obtain ⟨x1, hx1⟩ := gw_of_below (thru hb (below_gw W1 x2))
    clear hbx hb
    subst hx1
    refine hKK _ _ (contQ_nil ⟨⟨_, rfl⟩, ?_⟩)
    clear hKK KK
    refine wpSeg_cons ?_
    simp only [pickL, List.getElem?_cons_zero, List.getElem?_cons_succ]
    repeat (go_big_quiet_step (fail))
    refine wpQuiet_nil ?_
    go_wp2_with fail
    rename_i KK hKK
    refine HU.out.mono ?_
    rintro e w2 ⟨rfl, hb⟩
    obtain ⟨x3, hx2⟩ := gw_of_below (thru hb (below_gw W1 x1))
    clear hb
    subst hx2
    refine hKK _ _ (contQ_nil ⟨⟨_, rfl⟩, ?_⟩)
    clear hKK KK HU
    refine wpSeg_nil ?_
    simp only [pickL, List.getElem?_cons_zero, List.getElem?_cons_succ]
    repeat (go_big_quiet_step (fail))
    refine wpQuiet_nil ?_
    refine contN_nil ?_
    go_wp2_with fail
    go_ret
    exact ⟨rfl, HBc.out.gw x3⟩
  rw [of_and rfl rfl]
  have E3 := Lib.hid e3; clear e3
  cases e4 : inB y.lot 1 137438953472
  · rw [no_and rfl]
    have E4 := Lib.hid e4; clear e4
    go_enter Try.func31, Try.ntmps31
    go_upto_region 1 with (fail)
    rw [HWc.out]
    go_upto_region 2 with (fail)
    refine wp_region_steps (fun w' => ∃ x, w' = gw W1 x) [([0, 1, 3], 2), ([4, 5, 6, 7, 9], 8), ([10, 11, 12, 13, 14], 15), ([], 16), ([17, 18, 19, 20], 21), ([], 22)] [23, 24] [] (by kernel_rfl) (by kernel_rfl) ?_
    rintro _ ⟨x0, rfl⟩
    refine ⟨⟨_, rfl⟩, ?_⟩
    refine wpSeg_cons ?_
    simp only [pickL, List.getElem?_cons_zero, List.getElem?_cons_succ]
    repeat (go_big_quiet_step (fail))
    refine wpQuiet_nil ?_
    go_wp2_with fail
    refine contQ_now ⟨⟨_, rfl⟩, ?_⟩
    refine wpSeg_cons ?_
    simp only [pickL, List.getElem?_cons_zero, List.getElem?_cons_succ]
    repeat (go_big_quiet_step (fail))
    refine wpQuiet_nil ?_
    go_wp2_with fail
    refine contQ_now ⟨⟨_, rfl⟩, ?_⟩
    refine wpSeg_cons ?_
    simp only [pickL, List.getElem?_cons_zero, List.getElem?_cons_succ]
    repeat (go_big_quiet_step (fail))
    refine wpQuiet_nil ?_
    go_wp2_with fail
    rename_i KK hKK
    refine (upTo_any _ _).mono ?_
    rintro e w1 ⟨bb, rfl, hbx, hb⟩
    have HU := Lib.hid (allUp y.aR y.nR y.cR y.R 1073741824 bb w1 (by omega) (HI.out.iR.below (thru hb (below_gw W1 x0))) hbx)
    rw [E2.out] at HU
    obtain ⟨x1, hx1⟩ := gw_of_below (thru hb (below_gw W1 x0))
    clear hbx hb
    subst hx1
    refine hKK _ _ (contQ_nil ⟨⟨_, rfl⟩, ?_⟩)
    clear hKK KK
    refine wpSeg_cons ?_
    simp only [pickL, List.getElem?_cons_zero, List.getElem?_cons_succ]
    repeat (go_big_quiet_step (fail))
    refine wpQuiet_nil ?_
    go_wp2_with fail
    rename_i KK hKK
    refine HU.out.mono ?_
    rintro e w2 ⟨rfl, hb⟩
    obtain ⟨x2, hx2⟩ := gw_of_below (thru hb (below_gw W1 x1))
    clear hb
    subst hx2
    refine hKK _ _ (contQ_nil ⟨⟨_, rfl⟩, ?_⟩)
    clear hKK KK HU
    refine wpSeg_cons ?_
    simp only [pickL, List.getElem?_cons_zero, List.getElem?_cons_succ]
    repeat (go_big_quiet_step (fail))
    refine wpQuiet_nil ?_
    go_wp2_with fail
    rename_i KK hKK
    refine (upTo_any _ _).mono ?_
    rintro e w1 ⟨bb, rfl, hbx, hb⟩
    have HU := Lib.hid (allUp y.aM y.nM y.cM y.M 8 bb w1 (by omega) (HI.out.iM.below (thru hb (below_gw W1 x2))) hbx)
    rw [E3.out] at HU
    obtain ⟨x1, hx1⟩ := gw_of_below (thru hb (below_gw W1 x2))
    clear hbx hb
    subst hx1
    refine hKK _ _ (contQ_nil ⟨⟨_, rfl⟩, ?_⟩)
    clear hKK KK
    refine wpSeg_cons ?_
    simp only [pickL, List.getElem?_cons_zero, List.getElem?_cons_succ]
    repeat (go_big_quiet_step (fail))
    refine wpQuiet_nil ?_
    go_wp2_with fail
    rename_i KK hKK
    refine HU.out.mono ?_
    rintro e w2 ⟨rfl, hb⟩
    obtain ⟨x3, hx2⟩ := gw_of_below (thru hb (below_gw W1 x1))
    clear hb
    subst hx2
    refine hKK _ _ (contQ_nil ⟨⟨_, rfl⟩, ?_⟩)
    clear hKK KK HU
    refine wpSeg_nil ?_
    simp only [pickL, List.getElem?_cons_zero, List.getElem?_cons_succ]
    repeat (go_big_quiet_step (fail))
    refine wpQuiet_nil ?_
    refine contN_nil ?_
    go_wp2_with (go_at_call 33; (with_reducible refine (within_b y.lot _ _ _ E4.out).mono ?_); rintro e w' ⟨rfl, rfl⟩)
    go_ret
    exact ⟨rfl, HBc.out.gw x3⟩
  rw [of_and rfl rfl]
  have E4 := Lib.hid e4; clear e4
  go_enter Try.func31, Try.ntmps31
  go_upto_region 1 with (fail)
  rw [HWc.out]
  go_upto_region 2 with (fail)
  refine wp_region_steps (fun w' => ∃ x, w' = gw W1 x) [([0, 1, 3], 2), ([4, 5, 6, 7, 9], 8), ([10, 11, 12, 13, 14], 15), ([], 16), ([17, 18, 19, 20], 21), ([], 22)] [23, 24] [] (by kernel_rfl) (by kernel_rfl) ?_
  rintro _ ⟨x0, rfl⟩
  refine ⟨⟨_, rfl⟩, ?_⟩
  refine wpSeg_cons ?_
  simp only [pickL, List.getElem?_cons_zero, List.getElem?_cons_succ]
  repeat (go_big_quiet_step (fail))
  refine wpQuiet_nil ?_
  go_wp2_with fail
  refine contQ_now ⟨⟨_, rfl⟩, ?_⟩
  refine wpSeg_cons ?_
  simp only [pickL, List.getElem?_cons_zero, List.getElem?_cons_succ]
  repeat (go_big_quiet_step (fail))
  refine wpQuiet_nil ?_
  go_wp2_with fail
  refine contQ_now ⟨⟨_, rfl⟩, ?_⟩
  refine wpSeg_cons ?_
  simp only [pickL, List.getElem?_cons_zero, List.getElem?_cons_succ]
  repeat (go_big_quiet_step (fail))
  refine wpQuiet_nil ?_
  go_wp2_with fail
  rename_i KK hKK
  refine (upTo_any _ _).mono ?_
  rintro e w1 ⟨bb, rfl, hbx, hb⟩
  have HU := Lib.hid (allUp y.aR y.nR y.cR y.R 1073741824 bb w1 (by omega) (HI.out.iR.below (thru hb (below_gw W1 x0))) hbx)
  rw [E2.out] at HU
  obtain ⟨x1, hx1⟩ := gw_of_below (thru hb (below_gw W1 x0))
  clear hbx hb
  subst hx1
  refine hKK _ _ (contQ_nil ⟨⟨_, rfl⟩, ?_⟩)
  clear hKK KK
  refine wpSeg_cons ?_
  simp only [pickL, List.getElem?_cons_zero, List.getElem?_cons_succ]
  repeat (go_big_quiet_step (fail))
  refine wpQuiet_nil ?_
  go_wp2_with fail
  rename_i KK hKK
  refine HU.out.mono ?_
  rintro e w2 ⟨rfl, hb⟩
  obtain ⟨x2, hx2⟩ := gw_of_below (thru hb (below_gw W1 x1))
  clear hb
  subst hx2
  refine hKK _ _ (contQ_nil ⟨⟨_, rfl⟩, ?_⟩)
  clear hKK KK HU
  refine wpSeg_cons ?_
  simp only [pickL, List.getElem?_cons_zero, List.getElem?_cons_succ]
  repeat (go_big_quiet_step (fail))
  refine wpQuiet_nil ?_
  go_wp2_with fail
  rename_i KK hKK
  refine (upTo_any _ _).mono ?_
  rintro e w1 ⟨bb, rfl, hbx, hb⟩
  have HU := Lib.hid (allUp y.aM y.nM y.cM y.M 8 bb w1 (by omega) (HI.out.iM.below (thru hb (below_gw W1 x2))) hbx)
  rw [E3.out] at HU
  obtain ⟨x1, hx1⟩ := gw_of_below (thru hb (below_gw W1 x2))
  clear hbx hb
  subst hx1
  refine hKK _ _ (contQ_nil ⟨⟨_, rfl⟩, ?_⟩)
  clear hKK KK
  refine wpSeg_cons ?_
  simp only [pickL, List.getElem?_cons_zero, List.getElem?_cons_succ]
  repeat (go_big_quiet_step (fail))
  refine wpQuiet_nil ?_
  go_wp2_with fail
  rename_i KK hKK
  refine HU.out.mono ?_
  rintro e w2 ⟨rfl, hb⟩
  obtain ⟨x3, hx2⟩ := gw_of_below (thru hb (below_gw W1 x1))
  clear hb
  subst hx2
  refine hKK _ _ (contQ_nil ⟨⟨_, rfl⟩, ?_⟩)
  clear hKK KK HU
  refine wpSeg_nil ?_
  simp only [pickL, List.getElem?_cons_zero, List.getElem?_cons_succ]
  repeat (go_big_quiet_step (fail))
  refine wpQuiet_nil ?_
  refine contN_nil ?_
  go_wp2_with (first | (go_at_call 33; (with_reducible refine (within_b y.lot _ _ _ E4.out).mono ?_); rintro e w' ⟨rfl, rfl⟩) | (go_at_call 33; (with_reducible refine (within_any y.room _ _ _).mono ?_); rintro e w' ⟨rfl, rfl⟩))
  go_ret
  exact ⟨rfl, HBc.out.gw x3⟩

set_option maxRecDepth 100000 in
set_option maxHeartbeats 4000000 in
theorem areLots_any (y : Lyg) (aL : Option Addr) (n cL : Nat) (L : Nat → Int) (w : World) (hI : y.In w) (hf : y.Fits) (hL : IntsAt w aL n L) (hn : n ≤ 9223372036854775807) :
    Calls Try.prog 32 #[y.val, .slice aL n cL] w fun e w' => e = .returned (.bool (lotsB y n L)) ∧ Below w.heap.size w w' := by
  unfold Lyg.val
  obtain ⟨W1, hW1⟩ : ∃ W1, w.alloc (.cells #[.slice y.aR y.nR y.cR, .slice y.aM y.nM y.cM, .int .i64 y.lot, .int .i64 y.room] 29) = W1 := ⟨_, rfl⟩
  have hBc : Below w.heap.size w W1 := by rw [← hW1]; exact below_alloc _ _
  have zc0 : W1.heap[w.heap.size]? = some (.cells #[.slice y.aR y.nR y.cR, .slice y.aM y.nM y.cM, .int .i64 y.lot, .int .i64 y.room] 29 (0, 0)) := by rw [← hW1]; exact alloc_at rfl
  have c00 : W1.cell? ⟨w.heap.size, 0, none⟩ = some (.slice y.aR y.nR y.cR) := cell_of_block zc0 0 (by simp)
  have c01 : W1.cell? ⟨w.heap.size, 1, none⟩ = some (.slice y.aM y.nM y.cM) := cell_of_block zc0 1 (by simp)
  have c02 : W1.cell? ⟨w.heap.size, 2, none⟩ = some (.int .i64 y.lot) := cell_of_block zc0 2 (by simp)
  have c03 : W1.cell? ⟨w.heap.size, 3, none⟩ = some (.int .i64 y.room) := cell_of_block zc0 3 (by simp)
  have lc0 := (Array.getElem?_eq_some_iff.1 zc0).1
  clear zc0
  have HBc := Lib.hid hBc; clear hBc
  have HWc := Lib.hid hW1; clear hW1
  have fM := hf.nM
  have HI := Lib.hid (hI.below HBc.out)
  have HL := Lib.hid (hL.below HBc.out)
  clear hI hf hL
  unfold lotsB
  by_cases h0 : n = y.nM
  rotate_left
  · rw [no_and (by simpa using h0)]
    have d0 : ((n : Int) == (y.nM : Int)) = false := by simp; omega
    have d1 : ((n : Int) != (y.nM : Int)) = true := by simp; omega
    go_enter Try.func32, Try.ntmps32
    go_upto_region 1 with (fail)
    rw [HWc.out]
    go_wp2_with fail
    go_ret
    exact ⟨rfl, HBc.out⟩
  rw [of_and (by simpa using h0) rfl]
  have d0 : ((n : Int) == (y.nM : Int)) = true := by simp; omega
  have d1 : ((n : Int) != (y.nM : Int)) = false := by simp; omega
  have H0 := Lib.hid h0; clear h0
  go_enter Try.func32, Try.ntmps32
  go_upto_region 1 with (fail)
  rw [HWc.out]
  go_wp2_with fail
  go_loopw [15] (fun i wr => ∃ k : Nat, k ≤ n ∧ i = .int .i64 k ∧ Hid (∀ j, j < k → inB (L j) 0 (y.M j) = true) ∧ ∃ x, wr = gw W1 x) (fun i _ => n - (intOf i).toNat)
  case atStart => exact ⟨0, Nat.zero_le _, rfl, Lib.hid (fun j hj => by omega), ⟨#[], W1.drawn⟩, by simp [gw]⟩
  case round =>
    obtain ⟨k, hk, rfl, hall, x, rfl⟩ := hrel
    by_cases hlt : k < n
    · rcases HL.out with h0 | ⟨b, off, ea, lb, hc⟩
      · omega
      rcases HI.out.iM with h0 | ⟨b2, off2, ea2, lb2, hc2⟩
      · have := H0.out; omega
      have x1 := hc k hlt
      have x2 := hc2 k (by have := H0.out; omega)
      have km : k < y.nM := by have := H0.out; omega
      subst ea
      rw [ea2] at c01
      clear hc hc2 ea2 d0 d1
      cases hb : inB (L k) 0 (y.M k) with
      | true =>
        have HB := Lib.hid hb; clear hb
        go_wp2_with (go_at_call 33; (with_reducible refine (within_b (L k) _ _ _ HB.out).mono ?_); rintro e w' ⟨rfl, rfl⟩)
        go_roundw
        case rel => exact ⟨k + 1, by omega, by go_num, Lib.hid (all_succ (P := fun j => inB (L j) 0 (y.M j) = true) hall.out HB.out), x, rfl⟩
        case measure => simp [intOf]; omega
      | false =>
        have HB := Lib.hid hb; clear hb
        have HE := Lib.hid (allB_f (p := fun t => inB (L t) 0 (y.M t)) hlt HB.out)
        go_wp2_with (go_at_call 33; (with_reducible refine (within_b (L k) _ _ _ HB.out).mono ?_); rintro e w' ⟨rfl, rfl⟩)
        go_ret
        exact ⟨by rw [HE.out]; rfl, HBc.out.gw x⟩
    · have HE := Lib.hid (allB_t.2 (fun i hi => hall.out i (by omega)) : allB n (fun t => inB (L t) 0 (y.M t)) = true)
      go_wp2_with fail
      go_ret
      exact ⟨by rw [HE.out]; rfl, HBc.out.gw x⟩
end Go.Proofs.Ytdcpgjepgajioaa
