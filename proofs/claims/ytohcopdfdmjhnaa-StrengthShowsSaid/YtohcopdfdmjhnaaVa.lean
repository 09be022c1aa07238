/- The law StrengthShows returns true. No conditions beyond each theorem's own. -/
import Derived.Test.YtohcopdfdmjhnaaUc
import Derived.Test.YtohcopdfdmjhnaaTk
import Derived.Test.YtohcopdfdmjhnaaTd
set_option linter.unusedVariables false
set_option linter.unusedSimpArgs false
set_option linter.unusedSectionVars false
set_option linter.constructorNameAsVariable false
namespace Go.Proofs.Ytohcopdfdmjhnaa.L1
open Go.RowKit
open Go.Proofs.Ytohcopdfdmjhnaa

attribute [local go_sem] gw_cell gw_frozen gw_size

set_option maxRecDepth 100000 in
set_option maxHeartbeats 4000000 in
theorem shows_any (t : Tab) (slo shi lo hi tlo thi : Int) (w : World) (hI : t.In w) (hL : t.Lens) :
    Calls Try.prog 5 #[t.val, .agg #[.int .i64 slo, .int .i64 shi], .agg #[.int .i64 lo, .int .i64 hi], .agg #[.int .i64 tlo, .int .i64 thi]] w fun e w' => e = .returned (.bool true) ∧ Below w.heap.size w w' := by
  obtain ⟨W1, hW1⟩ : ∃ W1, (((w.alloc (.cells #[.slice t.aT t.nT t.cT, .slice t.aS t.nS t.cS, .slice t.H.a t.H.n t.H.c, .slice t.R.a t.R.n t.R.c] 25)).alloc (.cells #[.int .i64 slo, .int .i64 shi] 27)).alloc (.cells #[.int .i64 lo, .int .i64 hi] 27)).alloc (.cells #[.int .i64 tlo, .int .i64 thi] 27) = W1 := ⟨_, rfl⟩
  have hBc : Below w.heap.size w W1 := by rw [← hW1]; exact (((below_alloc _ _).alloc (by simp) _).alloc (by simp <;> omega) _).alloc (by simp <;> omega) _
  have zc0 : W1.heap[w.heap.size]? = some (.cells #[.slice t.aT t.nT t.cT, .slice t.aS t.nS t.cS, .slice t.H.a t.H.n t.H.c, .slice t.R.a t.R.n t.R.c] 25 (0, 0)) := by rw [← hW1]; exact alloc_keep (alloc_keep (alloc_keep (alloc_at rfl)))
  have zc1 : W1.heap[w.heap.size + 1]? = some (.cells #[.int .i64 slo, .int .i64 shi] 27 (0, 0)) := by rw [← hW1]; exact alloc_keep (alloc_keep (alloc_at (by simp)))
  have zc2 : W1.heap[w.heap.size + 1 + 1]? = some (.cells #[.int .i64 lo, .int .i64 hi] 27 (0, 0)) := by rw [← hW1]; exact alloc_keep (alloc_at (by simp <;> omega))
  have zc3 : W1.heap[w.heap.size + 1 + 1 + 1]? = some (.cells #[.int .i64 tlo, .int .i64 thi] 27 (0, 0)) := by rw [← hW1]; exact alloc_at (by simp <;> omega)
  have c00 : W1.cell? ⟨w.heap.size, 0, none⟩ = some (.slice t.aT t.nT t.cT) := cell_of_block zc0 0 (by simp)
  have c01 : W1.cell? ⟨w.heap.size, 1, none⟩ = some (.slice t.aS t.nS t.cS) := cell_of_block zc0 1 (by simp)
  have c02 : W1.cell? ⟨w.heap.size, 2, none⟩ = some (.slice t.H.a t.H.n t.H.c) := cell_of_block zc0 2 (by simp)
  have c03 : W1.cell? ⟨w.heap.size, 3, none⟩ = some (.slice t.R.a t.R.n t.R.c) := cell_of_block zc0 3 (by simp)
  have c10 : W1.cell? ⟨w.heap.size + 1, 0, none⟩ = some (.int .i64 slo) := cell_of_block zc1 0 (by simp)
  have c11 : W1.cell? ⟨w.heap.size + 1, 1, none⟩ = some (.int .i64 shi) := cell_of_block zc1 1 (by simp)
  have c20 : W1.cell? ⟨w.heap.size + 1 + 1, 0, none⟩ = some (.int .i64 lo) := cell_of_block zc2 0 (by simp)
  have c21 : W1.cell? ⟨w.heap.size + 1 + 1, 1, none⟩ = some (.int .i64 hi) := cell_of_block zc2 1 (by simp)
  have c30 : W1.cell? ⟨w.heap.size + 1 + 1 + 1, 0, none⟩ = some (.int .i64 tlo) := cell_of_block zc3 0 (by simp)
  have c31 : W1.cell? ⟨w.heap.size + 1 + 1 + 1, 1, none⟩ = some (.int .i64 thi) := cell_of_block zc3 1 (by simp)
  have lc0 := (Array.getElem?_eq_some_iff.1 zc0).1
  have lc1 := (Array.getElem?_eq_some_iff.1 zc1).1
  have lc2 := (Array.getElem?_eq_some_iff.1 zc2).1
  have lc3 := (Array.getElem?_eq_some_iff.1 zc3).1
  have Zc0 := Lib.hid zc0
  have Zc1 := Lib.hid zc1
  have Zc2 := Lib.hid zc2
  have Zc3 := Lib.hid zc3
  clear zc0 zc1 zc2 zc3
  have HBc := Lib.hid hBc; clear hBc
  have HWc := Lib.hid hW1; clear hW1
  have I1 := Lib.hid (hI.below HBc.out)
  have GR := Lib.hid (great_any t W1 I1.out hL)
  unfold Tab.val at GR ⊢
  clear hI
  go_enter Try.func5, Try.ntmps5
  go_upto_region 1 with (fail)
  rw [HWc.out]
  go_wp2_with fail
  refine GR.out.mono ?_
  rintro e w1 ⟨bg, rfl, hsm, hb⟩
  obtain ⟨z0, rfl⟩ := gw_of_below hb
  clear hb GR
  cases bg with
  | true =>
    go_wp2_with fail
    refine (Calls.gw_of (alive_any _)).mono ?_
    rintro e w1 ⟨rfl, z1, rfl⟩
    go_wp2_with fail
    go_ret
    exact ⟨rfl, HBc.out.gw z1⟩
  | false =>
    have hf := (hsm rfl).fits
    clear hsm
    have A' := Lib.hid (fun W (hb : Below W1.heap.size W1 W) => Shown_any t slo shi tlo thi W (I1.out.below hb) hf)
    have B' := Lib.hid (fun W (hb : Below W1.heap.size W1 W) => rShown_any t slo shi tlo thi W (I1.out.below hb) hf)
    have C' := Lib.hid (fun W (hb : Below W1.heap.size W1 W) => Strength_any t lo hi tlo thi W (I1.out.below hb) hf)
    have D' := Lib.hid (fun W (hb : Below W1.heap.size W1 W) => rStrength_any t lo hi tlo thi W (I1.out.below hb) hf)
    have K' := Lib.hid (fun W (hb : Below W1.heap.size W1 W) => Check_any t W (I1.out.below hb) hf)
    have R' := Lib.hid (fun W (hb : Below W1.heap.size W1 W) => rCheck_any t W (I1.out.below hb) hf)
    clear hf hL
    generalize (if t.okB = true then (0 : Int) else 1) = ck at *
    generalize t.shLo slo shi tlo thi = a0 at *
    generalize t.shHi slo shi tlo thi = a1 at *
    generalize t.shE slo shi tlo thi = ae at *
    generalize t.strL lo hi tlo thi = c0 at *
    generalize t.strH lo hi tlo thi = c1 at *
    generalize t.strE lo hi tlo thi = ce at *
    unfold Tab.val at A' B' C' D' K' R'
    go_wp2_with fail
    refine (Calls.gw_of (A'.out _ (below_gw W1 z0))).mono ?_
    rintro e w1 ⟨rfl, z1, rfl⟩
    go_upto_region 4 with (fail)
    obtain ⟨W2, hW2⟩ : ∃ W2, ((gw W1 z1)).alloc (.cells #[.int .i64 a0, .int .i64 a1] 27) = W2 := ⟨_, rfl⟩
    have hbW2 : Below W1.heap.size W1 W2 := by rw [← hW2]; exact (below_gw W1 z1).alloc (by simp [gw_size]) _
    have ZtW2 := Lib.hid ((hbW2.block _ (Array.getElem?_eq_some_iff.1 Zc0.out).1).trans Zc0.out)
    have ZsW2 := Lib.hid ((hbW2.block _ (Array.getElem?_eq_some_iff.1 Zc1.out).1).trans Zc1.out)
    have ZxW2 := Lib.hid ((hbW2.block _ (Array.getElem?_eq_some_iff.1 Zc2.out).1).trans Zc2.out)
    have ZmW2 := Lib.hid ((hbW2.block _ (Array.getElem?_eq_some_iff.1 Zc3.out).1).trans Zc3.out)
    have zaW2 : W2.heap[W1.heap.size + z1.bs.size]? = some (.cells #[.int .i64 a0, .int .i64 a1] 27 (0, 0)) := by rw [← hW2]; exact alloc_at (by simp [gw_size])
    have ZaW2 := Lib.hid zaW2; clear zaW2
    have HBW2 := Lib.hid (thru hbW2 HBc.out)
    have SBW2 := Lib.hid hbW2; clear hbW2
    have HWW2 := Lib.hid hW2; clear hW2
    rw [HWW2.out]
    clear c00 c01 c02 c03 c10 c11 c20 c21 c30 c31
    have S2 := Lib.hid SBW2.out
    have et0W2 : W2.cell? ⟨w.heap.size, 0, none⟩ = some (.slice t.aT t.nT t.cT) := cell_of_block ZtW2.out 0 (by simp)
    have et1W2 : W2.cell? ⟨w.heap.size, 1, none⟩ = some (.slice t.aS t.nS t.cS) := cell_of_block ZtW2.out 1 (by simp)
    have et2W2 : W2.cell? ⟨w.heap.size, 2, none⟩ = some (.slice t.H.a t.H.n t.H.c) := cell_of_block ZtW2.out 2 (by simp)
    have et3W2 : W2.cell? ⟨w.heap.size, 3, none⟩ = some (.slice t.R.a t.R.n t.R.c) := cell_of_block ZtW2.out 3 (by simp)
    have ltW2 := (Array.getElem?_eq_some_iff.1 ZtW2.out).1
    have es0W2 : W2.cell? ⟨w.heap.size + 1, 0, none⟩ = some (.int .i64 slo) := cell_of_block ZsW2.out 0 (by simp)
    have es1W2 : W2.cell? ⟨w.heap.size + 1, 1, none⟩ = some (.int .i64 shi) := cell_of_block ZsW2.out 1 (by simp)
    have lsW2 := (Array.getElem?_eq_some_iff.1 ZsW2.out).1
    have em0W2 : W2.cell? ⟨w.heap.size + 1 + 1 + 1, 0, none⟩ = some (.int .i64 tlo) := cell_of_block ZmW2.out 0 (by simp)
    have em1W2 : W2.cell? ⟨w.heap.size + 1 + 1 + 1, 1, none⟩ = some (.int .i64 thi) := cell_of_block ZmW2.out 1 (by simp)
    have lmW2 := (Array.getElem?_eq_some_iff.1 ZmW2.out).1
    go_wp2_with fail
    refine (Calls.grown (B'.out _ (S2.out))).mono ?_
    rintro e w1 ⟨rfl, z2, rfl⟩
    go_upto_region 5 with (fail)
    obtain ⟨W3, hW3⟩ : ∃ W3, ((gw W2 z2)).alloc (.cells #[.int .i64 a0, .int .i64 a1] 27) = W3 := ⟨_, rfl⟩
    have hbW3 : Below W2.heap.size W2 W3 := by rw [← hW3]; exact (below_gw W2 z2).alloc (by simp [gw_size]) _
    have ZtW3 := Lib.hid ((hbW3.block _ (Array.getElem?_eq_some_iff.1 ZtW2.out).1).trans ZtW2.out)
    have ZsW3 := Lib.hid ((hbW3.block _ (Array.getElem?_eq_some_iff.1 ZsW2.out).1).trans ZsW2.out)
    have ZxW3 := Lib.hid ((hbW3.block _ (Array.getElem?_eq_some_iff.1 ZxW2.out).1).trans ZxW2.out)
    have ZmW3 := Lib.hid ((hbW3.block _ (Array.getElem?_eq_some_iff.1 ZmW2.out).1).trans ZmW2.out)
    have ZaW3 := Lib.hid ((hbW3.block _ (Array.getElem?_eq_some_iff.1 ZaW2.out).1).trans ZaW2.out)
    have zbW3 : W3.heap[W2.heap.size + z2.bs.size]? = some (.cells #[.int .i64 a0, .int .i64 a1] 27 (0, 0)) := by rw [← hW3]; exact alloc_at (by simp [gw_size])
    have ZbW3 := Lib.hid zbW3; clear zbW3
    have HBW3 := Lib.hid (thru hbW3 HBW2.out)
    have SBW3 := Lib.hid hbW3; clear hbW3
    have HWW3 := Lib.hid hW3; clear hW3
    rw [HWW3.out]
    clear et0W2 et1W2 et2W2 et3W2 es0W2 es1W2 em0W2 em1W2
    have S3 := Lib.hid (S2.out.trans (SBW3.out.mono S2.out.size))
    have et0W3 : W3.cell? ⟨w.heap.size, 0, none⟩ = some (.slice t.aT t.nT t.cT) := cell_of_block ZtW3.out 0 (by simp)
    have et1W3 : W3.cell? ⟨w.heap.size, 1, none⟩ = some (.slice t.aS t.nS t.cS) := cell_of_block ZtW3.out 1 (by simp)
    have et2W3 : W3.cell? ⟨w.heap.size, 2, none⟩ = some (.slice t.H.a t.H.n t.H.c) := cell_of_block ZtW3.out 2 (by simp)
    have et3W3 : W3.cell? ⟨w.heap.size, 3, none⟩ = some (.slice t.R.a t.R.n t.R.c) := cell_of_block ZtW3.out 3 (by simp)
    have ltW3 := (Array.getElem?_eq_some_iff.1 ZtW3.out).1
    have ex0W3 : W3.cell? ⟨w.heap.size + 1 + 1, 0, none⟩ = some (.int .i64 lo) := cell_of_block ZxW3.out 0 (by simp)
    have ex1W3 : W3.cell? ⟨w.heap.size + 1 + 1, 1, none⟩ = some (.int .i64 hi) := cell_of_block ZxW3.out 1 (by simp)
    have lxW3 := (Array.getElem?_eq_some_iff.1 ZxW3.out).1
    have em0W3 : W3.cell? ⟨w.heap.size + 1 + 1 + 1, 0, none⟩ = some (.int .i64 tlo) := cell_of_block ZmW3.out 0 (by simp)
    have em1W3 : W3.cell? ⟨w.heap.size + 1 + 1 + 1, 1, none⟩ = some (.int .i64 thi) := cell_of_block ZmW3.out 1 (by simp)
    have lmW3 := (Array.getElem?_eq_some_iff.1 ZmW3.out).1
    go_wp2_with fail
    refine (Calls.grown (C'.out _ (S3.out))).mono ?_
    rintro e w1 ⟨rfl, z3, rfl⟩
    go_upto_region 6 with (fail)
    obtain ⟨W4, hW4⟩ : ∃ W4, ((gw W3 z3)).alloc (.cells #[.int .i64 c0, .int .i64 c1] 27) = W4 := ⟨_, rfl⟩
    have hbW4 : Below W3.heap.size W3 W4 := by rw [← hW4]; exact (below_gw W3 z3).alloc (by simp [gw_size]) _
    have ZtW4 := Lib.hid ((hbW4.block _ (Array.getElem?_eq_some_iff.1 ZtW3.out).1).trans ZtW3.out)
    have ZsW4 := Lib.hid ((hbW4.block _ (Array.getElem?_eq_some_iff.1 ZsW3.out).1).trans ZsW3.out)
    have ZxW4 := Lib.hid ((hbW4.block _ (Array.getElem?_eq_some_iff.1 ZxW3.out).1).trans ZxW3.out)
    have ZmW4 := Lib.hid ((hbW4.block _ (Array.getElem?_eq_some_iff.1 ZmW3.out).1).trans ZmW3.out)
    have ZaW4 := Lib.hid ((hbW4.block _ (Array.getElem?_eq_some_iff.1 ZaW3.out).1).trans ZaW3.out)
    have ZbW4 := Lib.hid ((hbW4.block _ (Array.getElem?_eq_some_iff.1 ZbW3.out).1).trans ZbW3.out)
    have zcW4 : W4.heap[W3.heap.size + z3.bs.size]? = some (.cells #[.int .i64 c0, .int .i64 c1] 27 (0, 0)) := by rw [← hW4]; exact alloc_at (by simp [gw_size])
    have ZcW4 := Lib.hid zcW4; clear zcW4
    have HBW4 := Lib.hid (thru hbW4 HBW3.out)
    have SBW4 := Lib.hid hbW4; clear hbW4
    have HWW4 := Lib.hid hW4; clear hW4
    rw [HWW4.out]
    clear et0W3 et1W3 et2W3 et3W3 ex0W3 ex1W3 em0W3 em1W3
    have S4 := Lib.hid (S3.out.trans (SBW4.out.mono S3.out.size))
    have et0W4 : W4.cell? ⟨w.heap.size, 0, none⟩ = some (.slice t.aT t.nT t.cT) := cell_of_block ZtW4.out 0 (by simp)
    have et1W4 : W4.cell? ⟨w.heap.size, 1, none⟩ = some (.slice t.aS t.nS t.cS) := cell_of_block ZtW4.out 1 (by simp)
    have et2W4 : W4.cell? ⟨w.heap.size, 2, none⟩ = some (.slice t.H.a t.H.n t.H.c) := cell_of_block ZtW4.out 2 (by simp)
    have et3W4 : W4.cell? ⟨w.heap.size, 3, none⟩ = some (.slice t.R.a t.R.n t.R.c) := cell_of_block ZtW4.out 3 (by simp)
    have ltW4 := (Array.getElem?_eq_some_iff.1 ZtW4.out).1
    have ex0W4 : W4.cell? ⟨w.heap.size + 1 + 1, 0, none⟩ = some (.int .i64 lo) := cell_of_block ZxW4.out 0 (by simp)
    have ex1W4 : W4.cell? ⟨w.heap.size + 1 + 1, 1, none⟩ = some (.int .i64 hi) := cell_of_block ZxW4.out 1 (by simp)
    have lxW4 := (Array.getElem?_eq_some_iff.1 ZxW4.out).1
    have em0W4 : W4.cell? ⟨w.heap.size + 1 + 1 + 1, 0, none⟩ = some (.int .i64 tlo) := cell_of_block ZmW4.out 0 (by simp)
    have em1W4 : W4.cell? ⟨w.heap.size + 1 + 1 + 1, 1, none⟩ = some (.int .i64 thi) := cell_of_block ZmW4.out 1 (by simp)
    have lmW4 := (Array.getElem?_eq_some_iff.1 ZmW4.out).1
    go_wp2_with fail
    refine (Calls.grown (D'.out _ (S4.out))).mono ?_
    rintro e w1 ⟨rfl, z4, rfl⟩
    go_upto_region 7 with (fail)
    obtain ⟨W5, hW5⟩ : ∃ W5, ((gw W4 z4)).alloc (.cells #[.int .i64 c0, .int .i64 c1] 27) = W5 := ⟨_, rfl⟩
    have hbW5 : Below W4.heap.size W4 W5 := by rw [← hW5]; exact (below_gw W4 z4).alloc (by simp [gw_size]) _
    have ZtW5 := Lib.hid ((hbW5.block _ (Array.getElem?_eq_some_iff.1 ZtW4.out).1).trans ZtW4.out)
    have ZsW5 := Lib.hid ((hbW5.block _ (Array.getElem?_eq_some_iff.1 ZsW4.out).1).trans ZsW4.out)
    have ZxW5 := Lib.hid ((hbW5.block _ (Array.getElem?_eq_some_iff.1 ZxW4.out).1).trans ZxW4.out)
    have ZmW5 := Lib.hid ((hbW5.block _ (Array.getElem?_eq_some_iff.1 ZmW4.out).1).trans ZmW4.out)
    have ZaW5 := Lib.hid ((hbW5.block _ (Array.getElem?_eq_some_iff.1 ZaW4.out).1).trans ZaW4.out)
    have ZbW5 := Lib.hid ((hbW5.block _ (Array.getElem?_eq_some_iff.1 ZbW4.out).1).trans ZbW4.out)
    have ZcW5 := Lib.hid ((hbW5.block _ (Array.getElem?_eq_some_iff.1 ZcW4.out).1).trans ZcW4.out)
    have zdW5 : W5.heap[W4.heap.size + z4.bs.size]? = some (.cells #[.int .i64 c0, .int .i64 c1] 27 (0, 0)) := by rw [← hW5]; exact alloc_at (by simp [gw_size])
    have ZdW5 := Lib.hid zdW5; clear zdW5
    have HBW5 := Lib.hid (thru hbW5 HBW4.out)
    have SBW5 := Lib.hid hbW5; clear hbW5
    have HWW5 := Lib.hid hW5; clear hW5
    rw [HWW5.out]
    clear et0W4 et1W4 et2W4 et3W4 ex0W4 ex1W4 em0W4 em1W4
    have S5 := Lib.hid (S4.out.trans (SBW5.out.mono S4.out.size))
    have et0W5 : W5.cell? ⟨w.heap.size, 0, none⟩ = some (.slice t.aT t.nT t.cT) := cell_of_block ZtW5.out 0 (by simp)
    have et1W5 : W5.cell? ⟨w.heap.size, 1, none⟩ = some (.slice t.aS t.nS t.cS) := cell_of_block ZtW5.out 1 (by simp)
    have et2W5 : W5.cell? ⟨w.heap.size, 2, none⟩ = some (.slice t.H.a t.H.n t.H.c) := cell_of_block ZtW5.out 2 (by simp)
    have et3W5 : W5.cell? ⟨w.heap.size, 3, none⟩ = some (.slice t.R.a t.R.n t.R.c) := cell_of_block ZtW5.out 3 (by simp)
    have ltW5 := (Array.getElem?_eq_some_iff.1 ZtW5.out).1
    have ea0W5 : W5.cell? ⟨W1.heap.size + z1.bs.size, 0, none⟩ = some (.int .i64 a0) := cell_of_block ZaW5.out 0 (by simp)
    have ea1W5 : W5.cell? ⟨W1.heap.size + z1.bs.size, 1, none⟩ = some (.int .i64 a1) := cell_of_block ZaW5.out 1 (by simp)
    have laW5 := (Array.getElem?_eq_some_iff.1 ZaW5.out).1
    have eb0W5 : W5.cell? ⟨W2.heap.size + z2.bs.size, 0, none⟩ = some (.int .i64 a0) := cell_of_block ZbW5.out 0 (by simp)
    have eb1W5 : W5.cell? ⟨W2.heap.size + z2.bs.size, 1, none⟩ = some (.int .i64 a1) := cell_of_block ZbW5.out 1 (by simp)
    have lbW5 := (Array.getElem?_eq_some_iff.1 ZbW5.out).1
    have ec0W5 : W5.cell? ⟨W3.heap.size + z3.bs.size, 0, none⟩ = some (.int .i64 c0) := cell_of_block ZcW5.out 0 (by simp)
    have ec1W5 : W5.cell? ⟨W3.heap.size + z3.bs.size, 1, none⟩ = some (.int .i64 c1) := cell_of_block ZcW5.out 1 (by simp)
    have lcW5 := (Array.getElem?_eq_some_iff.1 ZcW5.out).1
    have ed0W5 : W5.cell? ⟨W4.heap.size + z4.bs.size, 0, none⟩ = some (.int .i64 c0) := cell_of_block ZdW5.out 0 (by simp)
    have ed1W5 : W5.cell? ⟨W4.heap.size + z4.bs.size, 1, none⟩ = some (.int .i64 c1) := cell_of_block ZdW5.out 1 (by simp)
    have ldW5 := (Array.getElem?_eq_some_iff.1 ZdW5.out).1
    refine wp_region_gw (by kernel_rfl) (by kernel_rfl) ?_
    repeat (go_big_quiet_step (first | (go_at_call 28; with_reducible exact Calls.gw_of (K'.out _ (S5.out.trans ((below_gw W5 _).mono S5.out.size)))) | (go_at_call 29; with_reducible exact Calls.gw_of (R'.out _ (S5.out.trans ((below_gw W5 _).mono S5.out.size)))) | (go_at_call 15; with_reducible exact Calls.gw_of (alive_any _))))
    refine wpQuiet_nil ?_
    rintro _ ⟨z9, rfl⟩
    go_wp2_with fail
    go_ret
    exact ⟨rfl, HBW5.out.gw z9⟩
end Go.Proofs.Ytohcopdfdmjhnaa.L1
