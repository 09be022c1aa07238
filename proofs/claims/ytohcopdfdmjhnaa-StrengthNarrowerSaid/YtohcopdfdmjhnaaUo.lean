/- The law StrengthNarrower returns true. No conditions beyond each theorem's own. -/
import Derived.Test.YtohcopdfdmjhnaaUc
import Derived.Test.YtohcopdfdmjhnaaUn
import Derived.Test.YtohcopdfdmjhnaaTd
import Derived.Test.YtohcopdfdmjhnaaAr
set_option linter.unusedVariables false
set_option linter.unusedSimpArgs false
set_option linter.unusedSectionVars false
set_option linter.constructorNameAsVariable false
namespace Go.Proofs.Ytohcopdfdmjhnaa.L1
open Go.RowKit
open Go.Proofs.Ytohcopdfdmjhnaa

attribute [local go_sem] gw_cell gw_frozen gw_size
attribute [local go_sem ↓] run_minI run_maxI

theorem infoSpn : (Try.prog.info? 27).map (fun i => (i.zero, i.size)) = some (some (.agg #[.int .i64 0, .int .i64 0]), 2) := by kernel_rfl

set_option maxRecDepth 100000 in
set_option maxHeartbeats 4000000 in
theorem narrower_any (t : Tab) (alo ahi lo hi tlo thi b0 b1 b2 b3 b4 b5 : Int) (w : World) (hI : t.In w) (hL : t.Lens) (i1 : In64 alo ∧ In64 ahi) (i2 : In64 lo ∧ In64 hi) (i3 : In64 tlo ∧ In64 thi) (k0 : 0 ≤ b0 ∧ b0 ≤ 4294967295) (k1 : 0 ≤ b1 ∧ b1 ≤ 4294967295) (k2 : 0 ≤ b2 ∧ b2 ≤ 4294967295) (k3 : 0 ≤ b3 ∧ b3 ≤ 4294967295) (k4 : 0 ≤ b4 ∧ b4 ≤ 4294967295) (k5 : 0 ≤ b5 ∧ b5 ≤ 4294967295) :
    Calls Try.prog 10 #[t.val, .agg #[.int .i64 alo, .int .i64 ahi], .agg #[.int .i64 lo, .int .i64 hi], .agg #[.int .i64 tlo, .int .i64 thi], .agg #[.int .u32 b0, .int .u32 b1, .int .u32 b2, .int .u32 b3, .int .u32 b4, .int .u32 b5]] w fun e w' => e = .returned (.bool true) ∧ Below w.heap.size w w' := by
  have hmf : ∀ (fn : Fn) (first cap : Array Value) (w : World), (Instr.makeFunc fn first cap).run Try.prog w = .ok (.func fn first cap) w := fun _ _ _ _ => rfl
  obtain ⟨W1, hW1⟩ : ∃ W1, ((((w.alloc (.cells #[.slice t.aT t.nT t.cT, .slice t.aS t.nS t.cS, .slice t.H.a t.H.n t.H.c, .slice t.R.a t.R.n t.R.c] 25)).alloc (.cells #[.int .i64 alo, .int .i64 ahi] 27)).alloc (.cells #[.int .i64 lo, .int .i64 hi] 27)).alloc (.cells #[.int .i64 tlo, .int .i64 thi] 27)).alloc (.cells #[.int .u32 b0, .int .u32 b1, .int .u32 b2, .int .u32 b3, .int .u32 b4, .int .u32 b5] 67) = W1 := ⟨_, rfl⟩
  have hBc : Below w.heap.size w W1 := by rw [← hW1]; exact ((((below_alloc _ _).alloc (by simp) _).alloc (by simp <;> omega) _).alloc (by simp <;> omega) _).alloc (by simp <;> omega) _
  have zc0 : W1.heap[w.heap.size]? = some (.cells #[.slice t.aT t.nT t.cT, .slice t.aS t.nS t.cS, .slice t.H.a t.H.n t.H.c, .slice t.R.a t.R.n t.R.c] 25 (0, 0)) := by rw [← hW1]; exact alloc_keep (alloc_keep (alloc_keep (alloc_keep (alloc_at rfl))))
  have zc1 : W1.heap[w.heap.size + 1]? = some (.cells #[.int .i64 alo, .int .i64 ahi] 27 (0, 0)) := by rw [← hW1]; exact alloc_keep (alloc_keep (alloc_keep (alloc_at (by simp))))
  have zc2 : W1.heap[w.heap.size + 1 + 1]? = some (.cells #[.int .i64 lo, .int .i64 hi] 27 (0, 0)) := by rw [← hW1]; exact alloc_keep (alloc_keep (alloc_at (by simp <;> omega)))
  have zc3 : W1.heap[w.heap.size + 1 + 1 + 1]? = some (.cells #[.int .i64 tlo, .int .i64 thi] 27 (0, 0)) := by rw [← hW1]; exact alloc_keep (alloc_at (by simp <;> omega))
  have zc4 : W1.heap[w.heap.size + 1 + 1 + 1 + 1]? = some (.cells #[.int .u32 b0, .int .u32 b1, .int .u32 b2, .int .u32 b3, .int .u32 b4, .int .u32 b5] 67 (0, 0)) := by rw [← hW1]; exact alloc_at (by simp <;> omega)
  have c00 : W1.cell? ⟨w.heap.size, 0, none⟩ = some (.slice t.aT t.nT t.cT) := cell_of_block zc0 0 (by simp)
  have c01 : W1.cell? ⟨w.heap.size, 1, none⟩ = some (.slice t.aS t.nS t.cS) := cell_of_block zc0 1 (by simp)
  have c02 : W1.cell? ⟨w.heap.size, 2, none⟩ = some (.slice t.H.a t.H.n t.H.c) := cell_of_block zc0 2 (by simp)
  have c03 : W1.cell? ⟨w.heap.size, 3, none⟩ = some (.slice t.R.a t.R.n t.R.c) := cell_of_block zc0 3 (by simp)
  have c10 : W1.cell? ⟨w.heap.size + 1, 0, none⟩ = some (.int .i64 alo) := cell_of_block zc1 0 (by simp)
  have c11 : W1.cell? ⟨w.heap.size + 1, 1, none⟩ = some (.int .i64 ahi) := cell_of_block zc1 1 (by simp)
  have c20 : W1.cell? ⟨w.heap.size + 1 + 1, 0, none⟩ = some (.int .i64 lo) := cell_of_block zc2 0 (by simp)
  have c21 : W1.cell? ⟨w.heap.size + 1 + 1, 1, none⟩ = some (.int .i64 hi) := cell_of_block zc2 1 (by simp)
  have c30 : W1.cell? ⟨w.heap.size + 1 + 1 + 1, 0, none⟩ = some (.int .i64 tlo) := cell_of_block zc3 0 (by simp)
  have c31 : W1.cell? ⟨w.heap.size + 1 + 1 + 1, 1, none⟩ = some (.int .i64 thi) := cell_of_block zc3 1 (by simp)
  have c40 : W1.cell? ⟨w.heap.size + 1 + 1 + 1 + 1, 0, none⟩ = some (.int .u32 b0) := cell_of_block zc4 0 (by simp)
  have c41 : W1.cell? ⟨w.heap.size + 1 + 1 + 1 + 1, 1, none⟩ = some (.int .u32 b1) := cell_of_block zc4 1 (by simp)
  have c42 : W1.cell? ⟨w.heap.size + 1 + 1 + 1 + 1, 2, none⟩ = some (.int .u32 b2) := cell_of_block zc4 2 (by simp)
  have c43 : W1.cell? ⟨w.heap.size + 1 + 1 + 1 + 1, 3, none⟩ = some (.int .u32 b3) := cell_of_block zc4 3 (by simp)
  have c44 : W1.cell? ⟨w.heap.size + 1 + 1 + 1 + 1, 4, none⟩ = some (.int .u32 b4) := cell_of_block zc4 4 (by simp)
  have c45 : W1.cell? ⟨w.heap.size + 1 + 1 + 1 + 1, 5, none⟩ = some (.int .u32 b5) := cell_of_block zc4 5 (by simp)
  have lc0 := (Array.getElem?_eq_some_iff.1 zc0).1
  have lc1 := (Array.getElem?_eq_some_iff.1 zc1).1
  have lc2 := (Array.getElem?_eq_some_iff.1 zc2).1
  have lc3 := (Array.getElem?_eq_some_iff.1 zc3).1
  have lc4 := (Array.getElem?_eq_some_iff.1 zc4).1
  have Zc0 := Lib.hid zc0
  have Zc1 := Lib.hid zc1
  have Zc2 := Lib.hid zc2
  have Zc3 := Lib.hid zc3
  have Zc4 := Lib.hid zc4
  clear zc0 zc1 zc2 zc3 zc4
  have HBc := Lib.hid hBc; clear hBc
  have HWc := Lib.hid hW1; clear hW1
  have I1 := Lib.hid (hI.below HBc.out)
  have GR := Lib.hid (great_any t W1 I1.out hL)
  unfold Tab.val at GR ⊢
  clear hI
  go_enter Try.func10, Try.ntmps10
  go_upto_region 1 with (fail)
  rw [HWc.out]
  go_wp2_with fail
  refine GR.out.mono ?_
  rintro e w1 ⟨bg, rfl, hsm, hb⟩
  obtain ⟨z0, rfl⟩ := gw_of_below hb
  clear hb GR
  cases bg with
  | true =>
    go_wp2_with fail
    refine (Calls.gw_of (alive_any _)).mono ?_
    rintro e w1 ⟨rfl, z1, rfl⟩
    go_wp2_with fail
    go_ret
    exact ⟨rfl, HBc.out.gw z1⟩
  | false =>
    have hf := (hsm rfl).fits
    clear hsm
    by_cases d0 : ahi < alo
    · have g0 : decide (ahi < alo) = true := by simp; omega
      clear d0
      go_wp2_with fail
      refine (Calls.gw_of (alive_any _)).mono ?_
      rintro e w1 ⟨rfl, z1, rfl⟩
      go_wp2_with fail
      go_ret
      exact ⟨rfl, HBc.out.gw z1⟩
    have g0 : decide (ahi < alo) = false := by simp; omega
    by_cases d1 : lo < -30000
    · have g1 : decide (lo < -30000) = true := by simp; omega
      clear d1
      go_wp2_with fail
      refine (Calls.gw_of (alive_any _)).mono ?_
      rintro e w1 ⟨rfl, z1, rfl⟩
      go_wp2_with fail
      go_ret
      exact ⟨rfl, HBc.out.gw z1⟩
    have g1 : decide (lo < -30000) = false := by simp; omega
    by_cases d2 : hi < lo
    · have g2 : decide (hi < lo) = true := by simp; omega
      clear d2
      go_wp2_with fail
      refine (Calls.gw_of (alive_any _)).mono ?_
      rintro e w1 ⟨rfl, z1, rfl⟩
      go_wp2_with fail
      go_ret
      exact ⟨rfl, HBc.out.gw z1⟩
    have g2 : decide (hi < lo) = false := by simp; omega
    by_cases d3 : 30000 < hi
    · have g3 : decide (30000 < hi) = true := by simp; omega
      clear d3
      go_wp2_with fail
      refine (Calls.gw_of (alive_any _)).mono ?_
      rintro e w1 ⟨rfl, z1, rfl⟩
      go_wp2_with fail
      go_ret
      exact ⟨rfl, HBc.out.gw z1⟩
    have g3 : decide (30000 < hi) = false := by simp; omega
    by_cases d4 : tlo < -1000
    · have g4 : decide (tlo < -1000) = true := by simp; omega
      clear d4
      go_wp2_with fail
      refine (Calls.gw_of (alive_any _)).mono ?_
      rintro e w1 ⟨rfl, z1, rfl⟩
      go_wp2_with fail
      go_ret
      exact ⟨rfl, HBc.out.gw z1⟩
    have g4 : decide (tlo < -1000) = false := by simp; omega
    by_cases d5 : thi < tlo
    · have g5 : decide (thi < tlo) = true := by simp; omega
      clear d5
      go_wp2_with fail
      refine (Calls.gw_of (alive_any _)).mono ?_
      rintro e w1 ⟨rfl, z1, rfl⟩
      go_wp2_with fail
      go_ret
      exact ⟨rfl, HBc.out.gw z1⟩
    have g5 : decide (thi < tlo) = false := by simp; omega
    by_cases d6 : 2000 < thi
    · have g6 : decide (2000 < thi) = true := by simp; omega
      clear d6
      go_wp2_with fail
      refine (Calls.gw_of (alive_any _)).mono ?_
      rintro e w1 ⟨rfl, z1, rfl⟩
      go_wp2_with fail
      go_ret
      exact ⟨rfl, HBc.out.gw z1⟩
    have g6 : decide (2000 < thi) = false := by simp; omega
    by_cases d7 : alo < 0
    · have g7 : decide (alo < 0) = true := by simp; omega
      clear d7
      go_wp2_with fail
      refine (Calls.gw_of (alive_any _)).mono ?_
      rintro e w1 ⟨rfl, z1, rfl⟩
      go_wp2_with fail
      go_ret
      exact ⟨rfl, HBc.out.gw z1⟩
    have g7 : decide (alo < 0) = false := by simp; omega
    by_cases d8 : 1099511627776 < ahi
    · have g8 : decide (1099511627776 < ahi) = true := by simp; omega
      clear d8
      go_wp2_with fail
      refine (Calls.gw_of (alive_any _)).mono ?_
      rintro e w1 ⟨rfl, z1, rfl⟩
      go_wp2_with fail
      go_ret
      exact ⟨rfl, HBc.out.gw z1⟩
    have g8 : decide (1099511627776 < ahi) = false := by simp; omega
    have ra0 := innerI_range (b := b0) (show alo ≤ ahi by omega)
    have ra1 := innerI_range (b := b1) (show alo ≤ ahi by omega)
    have rx2 := innerI_range (b := b2) (show lo ≤ hi by omega)
    have rx3 := innerI_range (b := b3) (show lo ≤ hi by omega)
    have rm4 := innerI_range (b := b4) (show tlo ≤ thi by omega)
    have rm5 := innerI_range (b := b5) (show tlo ≤ thi by omega)
    have CU0' := Lib.hid (fun W (hb : Below W1.heap.size W1 W) => cut0_any alo ahi b0 b1 (w.heap.size + 1 + 1 + 1 + 1) W (by omega) (by omega) (by omega) k0 k1 (below_cell hb c40) (below_cell hb c41))
    have CU1' := Lib.hid (fun W (hb : Below W1.heap.size W1 W) => cut2_any lo hi b2 b3 (w.heap.size + 1 + 1 + 1 + 1) W (by omega) (by omega) (by omega) k2 k3 (below_cell hb c42) (below_cell hb c43))
    have CU2' := Lib.hid (fun W (hb : Below W1.heap.size W1 W) => cut4_any tlo thi b4 b5 (w.heap.size + 1 + 1 + 1 + 1) W (by omega) (by omega) (by omega) k4 k5 (below_cell hb c44) (below_cell hb c45))
    obtain ⟨alo1, halo1⟩ : ∃ v, min (innerI alo ahi b0) (innerI alo ahi b1) = v := ⟨_, rfl⟩
    simp only [halo1] at CU0'
    obtain ⟨ahi1, hahi1⟩ : ∃ v, max (innerI alo ahi b0) (innerI alo ahi b1) = v := ⟨_, rfl⟩
    simp only [hahi1] at CU0'
    obtain ⟨lo1, hlo1⟩ : ∃ v, min (innerI lo hi b2) (innerI lo hi b3) = v := ⟨_, rfl⟩
    simp only [hlo1] at CU1'
    obtain ⟨hi1, hhi1⟩ : ∃ v, max (innerI lo hi b2) (innerI lo hi b3) = v := ⟨_, rfl⟩
    simp only [hhi1] at CU1'
    obtain ⟨tlo1, htlo1⟩ : ∃ v, min (innerI tlo thi b4) (innerI tlo thi b5) = v := ⟨_, rfl⟩
    simp only [htlo1] at CU2'
    obtain ⟨thi1, hthi1⟩ : ∃ v, max (innerI tlo thi b4) (innerI tlo thi b5) = v := ⟨_, rfl⟩
    simp only [hthi1] at CU2'
    have NR : Nr alo ahi lo hi tlo thi alo1 ahi1 lo1 hi1 tlo1 thi1 := ⟨by omega, by omega, by omega, by omega, by omega, by omega, by omega, by omega, by omega, by omega, by omega⟩
    clear ra0 ra1 rx2 rx3 rm4 rm5 halo1 hahi1 hlo1 hhi1 htlo1 hthi1 d0 d1 d2 d3 d4 d5 d6 d7 d8
    have MA' := Lib.hid (fun W (hb : Below W1.heap.size W1 W) => Measured_any t alo ahi lo hi tlo thi W (I1.out.below hb) hf)
    have MB' := Lib.hid (fun W (hb : Below W1.heap.size W1 W) => Measured_any t alo1 ahi1 lo1 hi1 tlo1 thi1 W (I1.out.below hb) hf)
    have BK := Lib.hid (fun h => nr_back (t := t) NR h)
    have FW := Lib.hid (fun h => nr_fwd (t := t) NR h)
    have ZV : Hid (¬ t.meE alo ahi lo hi tlo thi = 0 → t.meV alo ahi lo hi tlo thi = Me.zero) := Lib.hid (fun h => if_neg h)
    clear NR hL hf i1 i2 i3 k0 k1 k2 k3 k4 k5
    generalize t.meV alo ahi lo hi tlo thi = m at *
    generalize t.meV alo1 ahi1 lo1 hi1 tlo1 thi1 = m1 at *
    generalize t.meE alo ahi lo hi tlo thi = e at *
    generalize t.meE alo1 ahi1 lo1 hi1 tlo1 thi1 = f at *
    obtain ⟨v1, v2, s1, s2, p1, p2⟩ := m
    obtain ⟨w1, w2, u1, u2, q1, q2⟩ := m1
    unfold Tab.val Me.out at MA' MB'
    dsimp only at MA' MB'
    go_wp2_with fail
    refine (Calls.gw_of (MA'.out _ (below_gw W1 z0))).mono ?_
    rintro e w1 ⟨rfl, z1, rfl⟩
    go_upto_region 5 with (fail)
    obtain ⟨W2, hW2⟩ : ∃ W2, ((((gw W1 z1)).alloc (.cells #[.int .i64 v1, .int .i64 v2] 27)).alloc (.cells #[.int .i64 s1, .int .i64 s2] 27)).alloc (.cells #[.int .i64 p1, .int .i64 p2] 27) = W2 := ⟨_, rfl⟩
    have hbW2 : Below W1.heap.size W1 W2 := by rw [← hW2]; exact (((below_gw W1 z1).alloc (by simp [gw_size]) _).alloc (by simp [gw_size] <;> omega) _).alloc (by simp [gw_size] <;> omega) _
    have ZtW2 := Lib.hid ((hbW2.block _ (Array.getElem?_eq_some_iff.1 Zc0.out).1).trans Zc0.out)
    have ZaW2 := Lib.hid ((hbW2.block _ (Array.getElem?_eq_some_iff.1 Zc1.out).1).trans Zc1.out)
    have ZxW2 := Lib.hid ((hbW2.block _ (Array.getElem?_eq_some_iff.1 Zc2.out).1).trans Zc2.out)
    have ZmW2 := Lib.hid ((hbW2.block _ (Array.getElem?_eq_some_iff.1 Zc3.out).1).trans Zc3.out)
    have ZbW2 := Lib.hid ((hbW2.block _ (Array.getElem?_eq_some_iff.1 Zc4.out).1).trans Zc4.out)
    have zvW2 : W2.heap[W1.heap.size + z1.bs.size]? = some (.cells #[.int .i64 v1, .int .i64 v2] 27 (0, 0)) := by rw [← hW2]; exact alloc_keep (alloc_keep (alloc_at (by simp [gw_size])))
    have ZvW2 := Lib.hid zvW2; clear zvW2
    have zsW2 : W2.heap[W1.heap.size + z1.bs.size + 1]? = some (.cells #[.int .i64 s1, .int .i64 s2] 27 (0, 0)) := by rw [← hW2]; exact alloc_keep (alloc_at (by simp [gw_size] <;> omega))
    have ZsW2 := Lib.hid zsW2; clear zsW2
    have zpW2 : W2.heap[W1.heap.size + z1.bs.size + 1 + 1]? = some (.cells #[.int .i64 p1, .int .i64 p2] 27 (0, 0)) := by rw [← hW2]; exact alloc_at (by simp [gw_size] <;> omega)
    have ZpW2 := Lib.hid zpW2; clear zpW2
    have HBW2 := Lib.hid (thru hbW2 HBc.out)
    have SBW2 := Lib.hid hbW2; clear hbW2
    have HWW2 := Lib.hid hW2; clear hW2
    rw [HWW2.out]
    clear c00 c01 c02 c03 c10 c11 c20 c21 c30 c31 c40 c41 c42 c43 c44 c45
    have S2 := Lib.hid SBW2.out
    have et0W2 : W2.cell? ⟨w.heap.size, 0, none⟩ = some (.slice t.aT t.nT t.cT) := cell_of_block ZtW2.out 0 (by simp)
    have et1W2 : W2.cell? ⟨w.heap.size, 1, none⟩ = some (.slice t.aS t.nS t.cS) := cell_of_block ZtW2.out 1 (by simp)
    have et2W2 : W2.cell? ⟨w.heap.size, 2, none⟩ = some (.slice t.H.a t.H.n t.H.c) := cell_of_block ZtW2.out 2 (by simp)
    have et3W2 : W2.cell? ⟨w.heap.size, 3, none⟩ = some (.slice t.R.a t.R.n t.R.c) := cell_of_block ZtW2.out 3 (by simp)
    have ltW2 := (Array.getElem?_eq_some_iff.1 ZtW2.out).1
    have ea0W2 : W2.cell? ⟨w.heap.size + 1, 0, none⟩ = some (.int .i64 alo) := cell_of_block ZaW2.out 0 (by simp)
    have ea1W2 : W2.cell? ⟨w.heap.size + 1, 1, none⟩ = some (.int .i64 ahi) := cell_of_block ZaW2.out 1 (by simp)
    have laW2 := (Array.getElem?_eq_some_iff.1 ZaW2.out).1
    have ex0W2 : W2.cell? ⟨w.heap.size + 1 + 1, 0, none⟩ = some (.int .i64 lo) := cell_of_block ZxW2.out 0 (by simp)
    have ex1W2 : W2.cell? ⟨w.heap.size + 1 + 1, 1, none⟩ = some (.int .i64 hi) := cell_of_block ZxW2.out 1 (by simp)
    have lxW2 := (Array.getElem?_eq_some_iff.1 ZxW2.out).1
    have em0W2 : W2.cell? ⟨w.heap.size + 1 + 1 + 1, 0, none⟩ = some (.int .i64 tlo) := cell_of_block ZmW2.out 0 (by simp)
    have em1W2 : W2.cell? ⟨w.heap.size + 1 + 1 + 1, 1, none⟩ = some (.int .i64 thi) := cell_of_block ZmW2.out 1 (by simp)
    have lmW2 := (Array.getElem?_eq_some_iff.1 ZmW2.out).1
    have eb0W2 : W2.cell? ⟨w.heap.size + 1 + 1 + 1 + 1, 0, none⟩ = some (.int .u32 b0) := cell_of_block ZbW2.out 0 (by simp)
    have eb1W2 : W2.cell? ⟨w.heap.size + 1 + 1 + 1 + 1, 1, none⟩ = some (.int .u32 b1) := cell_of_block ZbW2.out 1 (by simp)
    have eb2W2 : W2.cell? ⟨w.heap.size + 1 + 1 + 1 + 1, 2, none⟩ = some (.int .u32 b2) := cell_of_block ZbW2.out 2 (by simp)
    have eb3W2 : W2.cell? ⟨w.heap.size + 1 + 1 + 1 + 1, 3, none⟩ = some (.int .u32 b3) := cell_of_block ZbW2.out 3 (by simp)
    have eb4W2 : W2.cell? ⟨w.heap.size + 1 + 1 + 1 + 1, 4, none⟩ = some (.int .u32 b4) := cell_of_block ZbW2.out 4 (by simp)
    have eb5W2 : W2.cell? ⟨w.heap.size + 1 + 1 + 1 + 1, 5, none⟩ = some (.int .u32 b5) := cell_of_block ZbW2.out 5 (by simp)
    have lbW2 := (Array.getElem?_eq_some_iff.1 ZbW2.out).1
    refine wp_region_box3 (d1 := 16) (v1 := 98) (d2 := 17) (v2 := 99) (d3 := 18) (v3 := 100) (T := 27) [true, true, true, true, true, true, true, true, true, true, true, true, true, true, true, true, false, false, false, false, false, false, true] 16 19 17 20 18 21 #[.int .i64 0, .int .i64 0] #[.int .i64 w1, .int .i64 w2] #[.int .i64 u1, .int .i64 u2] #[.int .i64 q1, .int .i64 q2] (by kernel_rfl) rfl (fun x hx => by simp only [List.mem_cons, List.not_mem_nil, or_false] at hx; rcases hx with rfl | rfl | rfl <;> exact ⟨_, rfl, rfl, rfl, rfl⟩) (fun x hx => by simp only [List.mem_cons, List.not_mem_nil, or_false] at hx; rcases hx with rfl | rfl | rfl <;> exact ⟨_, rfl, rfl, rfl, rfl⟩) (by kernel_rfl) rfl (by kernel_rfl) infoSpn rfl rfl rfl rfl (by simp [Value.oneCell']) (by simp [Value.oneCell']) (by simp [Value.oneCell']) ?_
    apply Exists.intro
    refine ⟨fun S hS hx => ?_, ?_, ?_, ?_, ?_⟩
    · obtain ⟨x0, hx0⟩ := hx
      haveI : Nonempty (GrewS W2 S) := ⟨⟨x0, hx0⟩⟩
      simp only [pickM]
      repeat (go_big_quiet_step (first | (go_at_call 41; with_reducible (first | exact Calls.gwS hS (CU0'.out _ (S2.out.trans ((below_gw W2 _).mono S2.out.size))) | exact Calls.gwS hS (CU1'.out _ (S2.out.trans ((below_gw W2 _).mono S2.out.size))) | exact Calls.gwS hS (CU2'.out _ (S2.out.trans ((below_gw W2 _).mono S2.out.size))))) | (go_at_call 39; with_reducible exact Calls.gwS hS (MB'.out _ (S2.out.trans ((below_gw W2 _).mono S2.out.size))))))
      exact wpQuiet_nil rfl
    · rfl
    · rfl
    · rfl
    · intro Bn Bu Bq vnuq hq1 hq2 hq3 hk1 hk2 hk3 hbb
      have HKn := Lib.hid hk1; clear hk1
      have HKu := Lib.hid hk2; clear hk2
      have HKq := Lib.hid hk3; clear hk3
      have SBvnuq := Lib.hid (hbb)
      have Ztvnuq := Lib.hid ((SBvnuq.out.block _ (Array.getElem?_eq_some_iff.1 ZtW2.out).1).trans ZtW2.out)
      have Zavnuq := Lib.hid ((SBvnuq.out.block _ (Array.getElem?_eq_some_iff.1 ZaW2.out).1).trans ZaW2.out)
      have Zxvnuq := Lib.hid ((SBvnuq.out.block _ (Array.getElem?_eq_some_iff.1 ZxW2.out).1).trans ZxW2.out)
      have Zmvnuq := Lib.hid ((SBvnuq.out.block _ (Array.getElem?_eq_some_iff.1 ZmW2.out).1).trans ZmW2.out)
      have Zbvnuq := Lib.hid ((SBvnuq.out.block _ (Array.getElem?_eq_some_iff.1 ZbW2.out).1).trans ZbW2.out)
      have Zvvnuq := Lib.hid ((SBvnuq.out.block _ (Array.getElem?_eq_some_iff.1 ZvW2.out).1).trans ZvW2.out)
      have Zsvnuq := Lib.hid ((SBvnuq.out.block _ (Array.getElem?_eq_some_iff.1 ZsW2.out).1).trans ZsW2.out)
      have Zpvnuq := Lib.hid ((SBvnuq.out.block _ (Array.getElem?_eq_some_iff.1 ZpW2.out).1).trans ZpW2.out)
      have HBvnuq := Lib.hid (thru SBvnuq.out HBW2.out)
      have Svnuq := Lib.hid (S2.out.trans (SBvnuq.out.mono S2.out.size))
      clear hbb
      go_upto_region 6 with (fail)
      simp only [Act.put, List.setIfInBounds_toArray, List.set_cons_succ, List.set_cons_zero]
      by_cases he : e = 0
      · rcases FW.out he with h4 | ⟨h0, m, m2, hm, hm2, ⟨j1, j2, j3⟩, ⟨j4, j5, j6⟩, j7, j8, j9⟩
        · subst h4 he
          go_wp2_with fail
          refine (Calls.grown (alive_any _)).mono ?_
          rintro e w1 ⟨rfl, z2, rfl⟩
          go_wp2_with fail
          go_ret
          exact ⟨rfl, HBvnuq.out.gw z2⟩
        · subst hm hm2 h0 he
          dsimp only at j1 j2 j3 j4 j5 j6 j7 j8 j9
          have ev0vnuq : vnuq.cell? ⟨W1.heap.size + z1.bs.size, 0, none⟩ = some (.int .i64 v1) := cell_of_block Zvvnuq.out 0 (by simp)
          have ev1vnuq : vnuq.cell? ⟨W1.heap.size + z1.bs.size, 1, none⟩ = some (.int .i64 v2) := cell_of_block Zvvnuq.out 1 (by simp)
          have lvvnuq := (Array.getElem?_eq_some_iff.1 Zvvnuq.out).1
          have es0vnuq : vnuq.cell? ⟨W1.heap.size + z1.bs.size + 1, 0, none⟩ = some (.int .i64 s1) := cell_of_block Zsvnuq.out 0 (by simp)
          have es1vnuq : vnuq.cell? ⟨W1.heap.size + z1.bs.size + 1, 1, none⟩ = some (.int .i64 s2) := cell_of_block Zsvnuq.out 1 (by simp)
          have lsvnuq := (Array.getElem?_eq_some_iff.1 Zsvnuq.out).1
          have ep0vnuq : vnuq.cell? ⟨W1.heap.size + z1.bs.size + 1 + 1, 0, none⟩ = some (.int .i64 p1) := cell_of_block Zpvnuq.out 0 (by simp)
          have ep1vnuq : vnuq.cell? ⟨W1.heap.size + z1.bs.size + 1 + 1, 1, none⟩ = some (.int .i64 p2) := cell_of_block Zpvnuq.out 1 (by simp)
          have lpvnuq := (Array.getElem?_eq_some_iff.1 Zpvnuq.out).1
          have en0vnuq : vnuq.cell? ⟨Bn, 0, none⟩ = some (.int .i64 w1) := cell_of_block HKn.out 0 (by simp)
          have en1vnuq : vnuq.cell? ⟨Bn, 1, none⟩ = some (.int .i64 w2) := cell_of_block HKn.out 1 (by simp)
          have lnvnuq := (Array.getElem?_eq_some_iff.1 HKn.out).1
          have eu0vnuq : vnuq.cell? ⟨Bu, 0, none⟩ = some (.int .i64 u1) := cell_of_block HKu.out 0 (by simp)
          have eu1vnuq : vnuq.cell? ⟨Bu, 1, none⟩ = some (.int .i64 u2) := cell_of_block HKu.out 1 (by simp)
          have luvnuq := (Array.getElem?_eq_some_iff.1 HKu.out).1
          have eq0vnuq : vnuq.cell? ⟨Bq, 0, none⟩ = some (.int .i64 q1) := cell_of_block HKq.out 0 (by simp)
          have eq1vnuq : vnuq.cell? ⟨Bq, 1, none⟩ = some (.int .i64 q2) := cell_of_block HKq.out 1 (by simp)
          have lqvnuq := (Array.getElem?_eq_some_iff.1 HKq.out).1
          have N0 := Lib.hid (fun W => nrIn_true w1 w2 v1 v2 W j1 j2 j3)
          have N1 := Lib.hid (fun W => nrIn_true u1 u2 s1 s2 W j4 j5 j6)
          have N2 := Lib.hid (fun W => nrIn_true q1 q2 p1 p2 W j7 j8 j9)
          clear FW BK ZV j1 j2 j3 j4 j5 j6 j7 j8 j9
          go_wp2_with fail
          refine (Calls.grown (N0.out _)).mono ?_
          rintro e w1 ⟨rfl, z2, rfl⟩
          go_wp2_with fail
          refine (Calls.gw_of (N1.out _)).mono ?_
          rintro e w1 ⟨rfl, z3, rfl⟩
          go_wp2_with fail
          refine (Calls.gw_of (N2.out _)).mono ?_
          rintro e w1 ⟨rfl, z4, rfl⟩
          go_wp2_with fail
          refine (Calls.gw_of (alive_any _)).mono ?_
          rintro e w1 ⟨rfl, z5, rfl⟩
          go_wp2_with fail
          go_ret
          exact ⟨rfl, HBvnuq.out.gw z5⟩
      · have hz := ZV.out he
        unfold Me.zero at hz
        injection hz with y1 y2 y3 y4 y5 y6
        subst y1 y2 y3 y4 y5 y6
        have ev0vnuq : vnuq.cell? ⟨W1.heap.size + z1.bs.size, 0, none⟩ = some (.int .i64 0) := cell_of_block Zvvnuq.out 0 (by simp)
        have ev1vnuq : vnuq.cell? ⟨W1.heap.size + z1.bs.size, 1, none⟩ = some (.int .i64 0) := cell_of_block Zvvnuq.out 1 (by simp)
        have lvvnuq := (Array.getElem?_eq_some_iff.1 Zvvnuq.out).1
        have es0vnuq : vnuq.cell? ⟨W1.heap.size + z1.bs.size + 1, 0, none⟩ = some (.int .i64 0) := cell_of_block Zsvnuq.out 0 (by simp)
        have es1vnuq : vnuq.cell? ⟨W1.heap.size + z1.bs.size + 1, 1, none⟩ = some (.int .i64 0) := cell_of_block Zsvnuq.out 1 (by simp)
        have lsvnuq := (Array.getElem?_eq_some_iff.1 Zsvnuq.out).1
        have ep0vnuq : vnuq.cell? ⟨W1.heap.size + z1.bs.size + 1 + 1, 0, none⟩ = some (.int .i64 0) := cell_of_block Zpvnuq.out 0 (by simp)
        have ep1vnuq : vnuq.cell? ⟨W1.heap.size + z1.bs.size + 1 + 1, 1, none⟩ = some (.int .i64 0) := cell_of_block Zpvnuq.out 1 (by simp)
        have lpvnuq := (Array.getElem?_eq_some_iff.1 Zpvnuq.out).1
        have ne : (e != 0) = true := by simpa using he
        by_cases hfz : f = 0
        · have h := BK.out hfz
          have h2 : e = 2 ∨ e = 11 := by rcases h with h | h | h; exact absurd h he; exact .inl h; exact .inr h
          clear h BK FW ZV he ne
          subst hfz
          rcases h2 with rfl | rfl
          · skip
            go_wp2_with fail
            refine (Calls.grown (alive_any _)).mono ?_
            rintro e w1 ⟨rfl, z2, rfl⟩
            go_wp2_with fail
            go_ret
            exact ⟨rfl, HBvnuq.out.gw z2⟩
          · skip
            go_wp2_with fail
            refine (Calls.grown (alive_any _)).mono ?_
            rintro e w1 ⟨rfl, z2, rfl⟩
            go_wp2_with fail
            go_ret
            exact ⟨rfl, HBvnuq.out.gw z2⟩
        · have nf : (f != 0) = true := by simpa using hfz
          clear BK FW ZV he hfz
          go_wp2_with fail
          refine (Calls.grown (alive_any _)).mono ?_
          rintro e w1 ⟨rfl, z2, rfl⟩
          go_wp2_with fail
          go_ret
          exact ⟨rfl, HBvnuq.out.gw z2⟩
end Go.Proofs.Ytohcopdfdmjhnaa.L1
