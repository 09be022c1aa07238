/- HouseSplit walked: it returns true. No conditions beyond each theorem's own. -/
import Derived.Test.YtljofnmgddfljaaCe
import Derived.Test.YtljofnmgddfljaaEc
import Derived.Test.YtljofnmgddfljaaCb
set_option linter.unusedVariables false
set_option linter.unusedSimpArgs false
set_option linter.unusedSectionVars false
set_option linter.constructorNameAsVariable false
namespace Go.Proofs.Ytljofnmgddfljaa
open Go.RowKit

attribute [local go_sem] gw_cell gw_frozen gw_size
attribute [local go_sem ↓] run_minZ run_maxZ

set_option maxHeartbeats 1000000 in
theorem inner_any (lo hi b : Int) (w : World) (h0 : -1000000000000000 ≤ lo) (h1 : lo ≤ hi) (h2 : hi ≤ 1000000000000000) (h3 : 0 ≤ b) (h4 : b ≤ 4294967295) :
    Calls Try.prog 20 #[.agg #[.int .i64 lo, .int .i64 hi], .int .u32 b] w fun e w' => e = .returned (.int .i64 (innerI lo hi b)) ∧ Below w.heap.size w w' := by
  have hr := innerI_range (b := b) h1
  unfold innerI at hr ⊢
  have hz : ¬ hi - lo + 1 = 0 := by omega
  go_enter Try.func20, Try.ntmps20
  go_wp2_with fail
  refine wp_region_gw (by kernel_rfl) (by kernel_rfl) ?_
  repeat (go_big_quiet_step (fail))
  refine wpQuiet_nil ?_
  rintro _ ⟨z, rfl⟩
  go_wp2_with fail
  go_ret
  exact ⟨rfl, ((Below.refl _ w).alloc (Nat.le_refl _) _).gw z⟩

set_option maxRecDepth 100000 in
set_option maxHeartbeats 2000000 in
theorem splitCut_any (lo hi a b : Int) (w : World) (h0 : 0 ≤ lo) (h1 : lo ≤ hi) (h2 : hi ≤ 2147483648) (ha : 0 ≤ a ∧ a ≤ 4294967295) (hb : 0 ≤ b ∧ b ≤ 4294967295) :
    Calls Try.prog 19 #[.agg #[.int .i64 lo, .int .i64 hi], .int .u32 a, .int .u32 b] w fun e w' => e = .returned (.agg #[.int .i64 (minZ (innerI lo hi a) (innerI lo hi b)), .int .i64 (maxZ (innerI lo hi a) (innerI lo hi b))]) ∧ Below w.heap.size w w' := by
  have I1 := fun W => inner_any lo hi a W (by omega) h1 (by omega) ha.1 ha.2
  have I2 := fun W => inner_any lo hi b W (by omega) h1 (by omega) hb.1 hb.2
  generalize innerI lo hi a = p at *
  generalize innerI lo hi b = q at *
  have I1' := Lib.hid I1; clear I1
  have I2' := Lib.hid I2; clear I2
  obtain ⟨W1, hW1⟩ : ∃ W1, (w.alloc (.cells #[.int .i64 lo, .int .i64 hi] 26)).alloc (.cells #[.int .i64 0, .int .i64 0] 26) = W1 := ⟨_, rfl⟩
  have hBc : Below w.heap.size w W1 := by rw [← hW1]; exact (below_alloc _ _).alloc (by simp) _
  have zc0 : W1.heap[w.heap.size]? = some (.cells #[.int .i64 lo, .int .i64 hi] 26 (0, 0)) := by rw [← hW1]; exact alloc_keep (alloc_at rfl)
  have zc1 : W1.heap[w.heap.size + 1]? = some (.cells #[.int .i64 0, .int .i64 0] 26 (0, 0)) := by rw [← hW1]; exact alloc_at (by simp)
  have c00 : W1.cell? ⟨w.heap.size, 0, none⟩ = some (.int .i64 lo) := cell_of_block zc0 0 (by simp)
  have c01 : W1.cell? ⟨w.heap.size, 1, none⟩ = some (.int .i64 hi) := cell_of_block zc0 1 (by simp)
  have c10 : W1.cell? ⟨w.heap.size + 1, 0, none⟩ = some (.int .i64 0) := cell_of_block zc1 0 (by simp)
  have c11 : W1.cell? ⟨w.heap.size + 1, 1, none⟩ = some (.int .i64 0) := cell_of_block zc1 1 (by simp)
  have lc0 := (Array.getElem?_eq_some_iff.1 zc0).1
  have lc1 := (Array.getElem?_eq_some_iff.1 zc1).1
  have Zc1 := Lib.hid zc1
  clear zc0 zc1
  have HBc := Lib.hid hBc; clear hBc
  have HWc := Lib.hid hW1; clear hW1
  go_enter Try.func19, Try.ntmps19
  go_wp2_with fail
  rw [HWc.out]
  refine wp_region_gw (by kernel_rfl) (by kernel_rfl) ?_
  repeat (go_big_quiet_step ((go_at_call 20; first | (with_reducible exact Calls.gw_of (I1'.out _)) | (with_reducible exact Calls.gw_of (I2'.out _)))))
  refine wpQuiet_nil ?_
  rintro _ ⟨z, rfl⟩
  obtain ⟨V, hV⟩ : ∃ V, gw W1 z = V := ⟨_, rfl⟩
  have z1 := ((below_gw W1 z).block _ lc1).trans Zc1.out
  have BV := Lib.hid (HBc.out.gw z)
  rw [hV] at z1 BV ⊢
  clear hV
  have g0 := cell_of_block z1 0 (by simp)
  have g1 := cell_of_block z1 1 (by simp)
  have f0 := frozen_of_block z1 0
  have f1 := frozen_of_block z1 1
  clear z1 c00 c01 c10 c11
  go_wp2_with fail
  refine bodyPost_ret (v := .agg #[.int .i64 (minZ p q), .int .i64 (maxZ p q)]) (by simp [results, Try.results19, go_sem, *]) rfl ⟨rfl, ?_⟩
  exact ((BV.out.setCell (by simp <;> omega) _).setCell (by simp <;> omega) _)

set_option maxHeartbeats 1000000 in
theorem splitIn_true (al ah bl bh : Int) (w : World) (h1 : bl ≤ al) (h2 : al ≤ ah) (h3 : ah ≤ bh) :
    Calls Try.prog 21 #[.agg #[.int .i64 al, .int .i64 ah], .agg #[.int .i64 bl, .int .i64 bh]] w fun e w' => e = .returned (.bool true) ∧ Below w.heap.size w w' := by
  go_enter Try.func21, Try.ntmps21
  go_wp2
  go_ret
  exact ⟨rfl, (below_alloc _ _).alloc (by simp) _⟩

/-- a narrower content by remainders -/
def cutC (x : Cont) (b0 b1 b2 b3 : Int) : Cont := ⟨x.day, minZ (innerI x.alo x.ahi b0) (innerI x.alo x.ahi b1), maxZ (innerI x.alo x.ahi b0) (innerI x.alo x.ahi b1), minZ (innerI x.wlo x.whi b2) (innerI x.wlo x.whi b3), maxZ (innerI x.wlo x.whi b2) (innerI x.wlo x.whi b3)⟩
theorem cutC_in {x : Cont} (hx : contB x = true) (b0 b1 b2 b3 : Int) : Inside (cutC x b0 b1 b2 b3) x := by
  obtain ⟨-, ⟨x0, x1, x2⟩, x3, x4, x5⟩ := contB_t hx
  have i0 := innerI_range (b := b0) x1
  have i1 := innerI_range (b := b1) x1
  have i2 := innerI_range (b := b2) x4
  have i3 := innerI_range (b := b3) x4
  constructor <;> simp only [cutC, minZ_eq, maxZ_eq] <;> omega

set_option maxRecDepth 100000 in
set_option maxHeartbeats 8000000 in
theorem split_any (C : Clim) (x : Cont) (aS : Option Addr) (k cS : Nat) (F G : Nat → Int) (day mid b0 b1 b2 b3 : Int) (w : World) (hC : C.In w) (hl : Lens C k) (hS : SpansAt w aS k F G) (hk0 : 0 ≤ mid) (hk1 : mid ≤ 65535)
    (hb0 : 0 ≤ b0 ∧ b0 ≤ 4294967295) (hb1 : 0 ≤ b1 ∧ b1 ≤ 4294967295) (hb2 : 0 ≤ b2 ∧ b2 ≤ 4294967295) (hb3 : 0 ≤ b3 ∧ b3 ≤ 4294967295) :
    Calls Try.prog 3 #[.agg #[.int .i64 C.days, .slice C.aA C.nA C.cA, .slice C.aW C.nW C.cW], x.val, .slice aS k cS, .int .i64 day, .int .u16 mid, .agg #[.int .u32 b0, .int .u32 b1, .int .u32 b2, .int .u32 b3]] w (True1 w) := by
  unfold Cont.val
  obtain ⟨W1, hW1⟩ : ∃ W1, (((w.alloc (.cells #[.int .i64 C.days, .slice C.aA C.nA C.cA, .slice C.aW C.nW C.cW] 24)).alloc (.cells #[.int .i64 x.day, .int .i64 x.alo, .int .i64 x.ahi, .int .i64 x.wlo, .int .i64 x.whi] 28)).alloc (.cells #[.int .u32 b0, .int .u32 b1, .int .u32 b2, .int .u32 b3] 32)).alloc (.cells #[.int .i64 day] 3) = W1 := ⟨_, rfl⟩
  have hBc : Below w.heap.size w W1 := by rw [← hW1]; exact (((below_alloc _ _).alloc (by simp) _).alloc (by simp <;> omega) _).alloc (by simp <;> omega) _
  have zc0 : W1.heap[w.heap.size]? = some (.cells #[.int .i64 C.days, .slice C.aA C.nA C.cA, .slice C.aW C.nW C.cW] 24 (0, 0)) := by rw [← hW1]; exact alloc_keep (alloc_keep (alloc_keep (alloc_at rfl)))
  have zc1 : W1.heap[w.heap.size + 1]? = some (.cells #[.int .i64 x.day, .int .i64 x.alo, .int .i64 x.ahi, .int .i64 x.wlo, .int .i64 x.whi] 28 (0, 0)) := by rw [← hW1]; exact alloc_keep (alloc_keep (alloc_at (by simp)))
  have zc2 : W1.heap[w.heap.size + 1 + 1]? = some (.cells #[.int .u32 b0, .int .u32 b1, .int .u32 b2, .int .u32 b3] 32 (0, 0)) := by rw [← hW1]; exact alloc_keep (alloc_at (by simp <;> omega))
  have zc3 : W1.heap[w.heap.size + 1 + 1 + 1]? = some (.cells #[.int .i64 day] 3 (0, 0)) := by rw [← hW1]; exact alloc_at (by simp <;> omega)
  have c00 : W1.cell? ⟨w.heap.size, 0, none⟩ = some (.int .i64 C.days) := cell_of_block zc0 0 (by simp)
  have c01 : W1.cell? ⟨w.heap.size, 1, none⟩ = some (.slice C.aA C.nA C.cA) := cell_of_block zc0 1 (by simp)
  have c02 : W1.cell? ⟨w.heap.size, 2, none⟩ = some (.slice C.aW C.nW C.cW) := cell_of_block zc0 2 (by simp)
  have c10 : W1.cell? ⟨w.heap.size + 1, 0, none⟩ = some (.int .i64 x.day) := cell_of_block zc1 0 (by simp)
  have c11 : W1.cell? ⟨w.heap.size + 1, 1, none⟩ = some (.int .i64 x.alo) := cell_of_block zc1 1 (by simp)
  have c12 : W1.cell? ⟨w.heap.size + 1, 2, none⟩ = some (.int .i64 x.ahi) := cell_of_block zc1 2 (by simp)
  have c13 : W1.cell? ⟨w.heap.size + 1, 3, none⟩ = some (.int .i64 x.wlo) := cell_of_block zc1 3 (by simp)
  have c14 : W1.cell? ⟨w.heap.size + 1, 4, none⟩ = some (.int .i64 x.whi) := cell_of_block zc1 4 (by simp)
  have c20 : W1.cell? ⟨w.heap.size + 1 + 1, 0, none⟩ = some (.int .u32 b0) := cell_of_block zc2 0 (by simp)
  have c21 : W1.cell? ⟨w.heap.size + 1 + 1, 1, none⟩ = some (.int .u32 b1) := cell_of_block zc2 1 (by simp)
  have c22 : W1.cell? ⟨w.heap.size + 1 + 1, 2, none⟩ = some (.int .u32 b2) := cell_of_block zc2 2 (by simp)
  have c23 : W1.cell? ⟨w.heap.size + 1 + 1, 3, none⟩ = some (.int .u32 b3) := cell_of_block zc2 3 (by simp)
  have c30 : W1.cell? ⟨w.heap.size + 1 + 1 + 1, 0, none⟩ = some (.int .i64 day) := cell_of_block zc3 0 (by simp)
  have lc0 := (Array.getElem?_eq_some_iff.1 zc0).1
  have lc1 := (Array.getElem?_eq_some_iff.1 zc1).1
  have lc2 := (Array.getElem?_eq_some_iff.1 zc2).1
  have lc3 := (Array.getElem?_eq_some_iff.1 zc3).1
  have Zc0 := Lib.hid zc0
  have Zc1 := Lib.hid zc1
  have Zc2 := Lib.hid zc2
  clear zc0 zc1 zc2 zc3
  have HBc := Lib.hid hBc; clear hBc
  have HWc := Lib.hid hW1; clear hW1
  have GR := great_any C x aS k cS (some ⟨w.heap.size + 1 + 1 + 1, 0, none⟩) 1 1 (fun _ => day) W1 (hC.below HBc.out) hl (ints_one lc3 c30) (by omega)
  have HC := Lib.hid (hC.below HBc.out); clear hC
  have HS := Lib.hid (hS.below HBc.out); clear hS
  unfold Cont.val at GR
  have GR' := Lib.hid GR; clear GR c30
  go_enter Try.func3, Try.ntmps3
  go_wp2_with fail
  rw [HWc.out]
  go_wp2_with fail
  refine GR'.out.mono ?_
  rintro e w1 ⟨b, rfl, hg, hb⟩
  obtain ⟨z1, rfl⟩ := gw_of_below hb
  clear hb
  cases b with
  | true =>
    clear hg
    go_wp2_with fail
    refine (Calls.gw_of (alive_any _)).mono ?_
    rintro e w1 ⟨rfl, z2, rfl⟩
    go_wp2_with fail
    go_ret
    exact ⟨rfl, HBc.out.gw z2⟩
  | false =>
    have gd := hg rfl
    have hk : k ≤ 1000000000000000 := by have := gd.st; omega
    have AT := fun X d W (hb : Below W1.heap.size W1 W) => At_any C X aS k cS F G d W (HC.out.below hb) gd.fits hk (HS.out.below hb)
    clear hg gd hk
    by_cases h0 : errH C x k F G day = 0
    · obtain ⟨g1, g2, g3, g4, g5, g6⟩ := errH_zero h0
      obtain ⟨⟨xd0, xd1⟩, ⟨xa0, xa1, xa2⟩, xw0, xw1, xw2⟩ := contB_t g2
      obtain ⟨d, hd⟩ : ∃ d, x.day + mid % (day - x.day + 1) = d := ⟨_, rfl⟩
      have r0 := Int.emod_nonneg mid (show day - x.day + 1 ≠ 0 by omega)
      have r1 := Int.emod_lt_of_pos mid (show 0 < day - x.day + 1 by omega)
      have e1 := (errH_day h0 (show x.day ≤ d by omega) (show d ≤ day by omega)).1
      obtain ⟨e2, e3⟩ := at_split h0 (show x.day ≤ d by omega) (show d ≤ day by omega)
      obtain ⟨e4, e5⟩ := at_inside (cutC_in g2 b0 b1 b2 b3) h0
      have AT0 := fun W hb => AT x day W hb
      have AT1 := fun W hb => AT x d W hb
      have AT2 := fun W hb => AT (atV C x k F G d) day W hb
      have AT3 := fun W hb => AT (cutC x b0 b1 b2 b3) day W hb
      rw [h0] at AT0
      rw [e1] at AT1
      rw [e2, e3] at AT2
      rw [e4] at AT3
      have RC := fun W => rContent_b x W g2
      have CU1 := fun W => splitCut_any x.alo x.ahi b0 b1 W xa0 xa1 xa2 hb0 hb1
      have CU2 := fun W => splitCut_any x.wlo x.whi b2 b3 W xw0 xw1 xw2 hb2 hb3
      rw [show (cutC x b0 b1 b2 b3).val = .agg #[.int .i64 x.day, .int .i64 (cutC x b0 b1 b2 b3).alo, .int .i64 (cutC x b0 b1 b2 b3).ahi, .int .i64 (cutC x b0 b1 b2 b3).wlo, .int .i64 (cutC x b0 b1 b2 b3).whi] from rfl] at AT3
      rw [show minZ (innerI x.alo x.ahi b0) (innerI x.alo x.ahi b1) = (cutC x b0 b1 b2 b3).alo from rfl, show maxZ (innerI x.alo x.ahi b0) (innerI x.alo x.ahi b1) = (cutC x b0 b1 b2 b3).ahi from rfl] at CU1
      rw [show minZ (innerI x.wlo x.whi b2) (innerI x.wlo x.whi b3) = (cutC x b0 b1 b2 b3).wlo from rfl, show maxZ (innerI x.wlo x.whi b2) (innerI x.wlo x.whi b3) = (cutC x b0 b1 b2 b3).whi from rfl] at CU2
      have j0 := e5.a0
      have j1 := e5.a1
      have j2 := e5.a2
      have j3 := e5.w0
      have j4 := e5.w1
      have j5 := e5.w2
      clear e1 e2 e3 e4 e5 AT
      generalize atV C (cutC x b0 b1 b2 b3) k F G day = u at *
      generalize cutC x b0 b1 b2 b3 = c at *
      generalize atV C x k F G d = m at *
      generalize atV C x k F G day = y at *
      rw [← hd] at AT1
      have HD := Lib.hid hd; clear hd
      unfold Cont.val at AT0 AT1 AT2 AT3
      have AT0' := Lib.hid AT0; clear AT0
      have AT1' := Lib.hid AT1; clear AT1
      have AT2' := Lib.hid AT2; clear AT2
      have AT3' := Lib.hid AT3; clear AT3
      have RC' := Lib.hid RC; clear RC
      have CU1' := Lib.hid CU1; clear CU1
      have CU2' := Lib.hid CU2; clear CU2
      have HGG := Lib.hid (And.intro g1 (And.intro g2 g3)); clear g1 g2 g3 g6 h0
      have nz : ¬ day - x.day + 1 = 0 := by omega
      have n2 : 0 ≤ day - x.day + 1 := by omega
      go_wp2_with fail
      refine (Calls.gw_of (AT0'.out _ (below_gw W1 z1))).mono ?_
      rintro e w1 ⟨rfl, z2, rfl⟩
      go_upto_region 4 with (fail)
      obtain ⟨W2, hW2⟩ : ∃ W2, ((gw W1 z2)).alloc (.cells #[.int .i64 y.day, .int .i64 y.alo, .int .i64 y.ahi, .int .i64 y.wlo, .int .i64 y.whi] 28) = W2 := ⟨_, rfl⟩
      have hbW2 : Below W1.heap.size W1 W2 := by rw [← hW2]; exact (below_gw W1 z2).alloc (by simp [gw_size]) _
      have ZcW2 := Lib.hid ((hbW2.block _ (Array.getElem?_eq_some_iff.1 Zc0.out).1).trans Zc0.out)
      have ZxW2 := Lib.hid ((hbW2.block _ (Array.getElem?_eq_some_iff.1 Zc1.out).1).trans Zc1.out)
      have ZbW2 := Lib.hid ((hbW2.block _ (Array.getElem?_eq_some_iff.1 Zc2.out).1).trans Zc2.out)
      have zyW2 : W2.heap[W1.heap.size + z2.bs.size]? = some (.cells #[.int .i64 y.day, .int .i64 y.alo, .int .i64 y.ahi, .int .i64 y.wlo, .int .i64 y.whi] 28 (0, 0)) := by rw [← hW2]; exact alloc_at (by simp [gw_size])
      have ZyW2 := Lib.hid zyW2; clear zyW2
      have HBW2 := Lib.hid (thru hbW2 HBc.out)
      have SBW2 := Lib.hid hbW2; clear hbW2
      have HWW2 := Lib.hid hW2; clear hW2
      rw [HWW2.out]
      clear c00 c01 c02 c10 c11 c12 c13 c14 c20 c21 c22 c23
      have S2 := Lib.hid SBW2.out
      have ec0W2 : W2.cell? ⟨w.heap.size, 0, none⟩ = some (.int .i64 C.days) := cell_of_block ZcW2.out 0 (by simp)
      have ec1W2 : W2.cell? ⟨w.heap.size, 1, none⟩ = some (.slice C.aA C.nA C.cA) := cell_of_block ZcW2.out 1 (by simp)
      have ec2W2 : W2.cell? ⟨w.heap.size, 2, none⟩ = some (.slice C.aW C.nW C.cW) := cell_of_block ZcW2.out 2 (by simp)
      have lcW2 := (Array.getElem?_eq_some_iff.1 ZcW2.out).1
      have ex0W2 : W2.cell? ⟨w.heap.size + 1, 0, none⟩ = some (.int .i64 x.day) := cell_of_block ZxW2.out 0 (by simp)
      have ex1W2 : W2.cell? ⟨w.heap.size + 1, 1, none⟩ = some (.int .i64 x.alo) := cell_of_block ZxW2.out 1 (by simp)
      have ex2W2 : W2.cell? ⟨w.heap.size + 1, 2, none⟩ = some (.int .i64 x.ahi) := cell_of_block ZxW2.out 2 (by simp)
      have ex3W2 : W2.cell? ⟨w.heap.size + 1, 3, none⟩ = some (.int .i64 x.wlo) := cell_of_block ZxW2.out 3 (by simp)
      have ex4W2 : W2.cell? ⟨w.heap.size + 1, 4, none⟩ = some (.int .i64 x.whi) := cell_of_block ZxW2.out 4 (by simp)
      have lxW2 := (Array.getElem?_eq_some_iff.1 ZxW2.out).1
      go_wp2_with fail
      refine (Calls.grown (RC'.out _)).mono ?_
      rintro e w1 ⟨rfl, z3, rfl⟩
      go_upto_region 8 with (fail)
      obtain ⟨W3, hW3⟩ : ∃ W3, gw W2 z3 = W3 := ⟨_, rfl⟩
      have hbW3 : Below W2.heap.size W2 W3 := by rw [← hW3]; exact below_gw W2 z3
      have ZcW3 := Lib.hid ((hbW3.block _ (Array.getElem?_eq_some_iff.1 ZcW2.out).1).trans ZcW2.out)
      have ZxW3 := Lib.hid ((hbW3.block _ (Array.getElem?_eq_some_iff.1 ZxW2.out).1).trans ZxW2.out)
      have ZbW3 := Lib.hid ((hbW3.block _ (Array.getElem?_eq_some_iff.1 ZbW2.out).1).trans ZbW2.out)
      have ZyW3 := Lib.hid ((hbW3.block _ (Array.getElem?_eq_some_iff.1 ZyW2.out).1).trans ZyW2.out)
      have HBW3 := Lib.hid (thru hbW3 HBW2.out)
      have SBW3 := Lib.hid hbW3; clear hbW3
      have HWW3 := Lib.hid hW3; clear hW3
      rw [HWW3.out]
      clear ec0W2 ec1W2 ec2W2 ex0W2 ex1W2 ex2W2 ex3W2 ex4W2
      have S3 := Lib.hid (S2.out.trans (SBW3.out.mono S2.out.size))
      have ec0W3 : W3.cell? ⟨w.heap.size, 0, none⟩ = some (.int .i64 C.days) := cell_of_block ZcW3.out 0 (by simp)
      have ec1W3 : W3.cell? ⟨w.heap.size, 1, none⟩ = some (.slice C.aA C.nA C.cA) := cell_of_block ZcW3.out 1 (by simp)
      have ec2W3 : W3.cell? ⟨w.heap.size, 2, none⟩ = some (.slice C.aW C.nW C.cW) := cell_of_block ZcW3.out 2 (by simp)
      have lcW3 := (Array.getElem?_eq_some_iff.1 ZcW3.out).1
      have ex0W3 : W3.cell? ⟨w.heap.size + 1, 0, none⟩ = some (.int .i64 x.day) := cell_of_block ZxW3.out 0 (by simp)
      have ex1W3 : W3.cell? ⟨w.heap.size + 1, 1, none⟩ = some (.int .i64 x.alo) := cell_of_block ZxW3.out 1 (by simp)
      have ex2W3 : W3.cell? ⟨w.heap.size + 1, 2, none⟩ = some (.int .i64 x.ahi) := cell_of_block ZxW3.out 2 (by simp)
      have ex3W3 : W3.cell? ⟨w.heap.size + 1, 3, none⟩ = some (.int .i64 x.wlo) := cell_of_block ZxW3.out 3 (by simp)
      have ex4W3 : W3.cell? ⟨w.heap.size + 1, 4, none⟩ = some (.int .i64 x.whi) := cell_of_block ZxW3.out 4 (by simp)
      have lxW3 := (Array.getElem?_eq_some_iff.1 ZxW3.out).1
      refine wp_region_box1 [true, true, true, true, true, true, true, true, true, true, true, true, true, true, true, true, true, true, false, false, true] 18 19 #[.int .i64 0, .int .i64 0, .int .i64 0, .int .i64 0, .int .i64 0] #[.int .i64 m.day, .int .i64 m.alo, .int .i64 m.ahi, .int .i64 m.wlo, .int .i64 m.whi] (by kernel_rfl) rfl rfl rfl (by kernel_rfl) rfl (by kernel_rfl) infoCont rfl rfl (by simp [Value.oneCell']) ?_
      apply Exists.intro
      refine ⟨fun S hS hx => ?_, ?_, ?_⟩
      · obtain ⟨x0, hx0⟩ := hx
        haveI : Nonempty (GrewS W3 S) := ⟨⟨x0, hx0⟩⟩
        simp only [pickM]
        repeat (go_big_quiet_step ((go_at_call 17; with_reducible exact Calls.gwS hS (AT1'.out _ (S3.out.trans ((below_gw W3 _).mono S3.out.size))))))
        exact wpQuiet_nil rfl
      · rfl
      · intro B5 w5 hBw hblk hb5
        have Zm := Lib.hid hblk
        have SB5 := Lib.hid hb5
        have Zcw5 := Lib.hid ((hb5.block _ (Array.getElem?_eq_some_iff.1 ZcW3.out).1).trans ZcW3.out)
        have Zxw5 := Lib.hid ((hb5.block _ (Array.getElem?_eq_some_iff.1 ZxW3.out).1).trans ZxW3.out)
        have Zbw5 := Lib.hid ((hb5.block _ (Array.getElem?_eq_some_iff.1 ZbW3.out).1).trans ZbW3.out)
        have Zyw5 := Lib.hid ((hb5.block _ (Array.getElem?_eq_some_iff.1 ZyW3.out).1).trans ZyW3.out)
        have HBw5 := Lib.hid (thru hb5 HBW3.out)
        have S5 := Lib.hid (S3.out.trans (hb5.mono S3.out.size))
        clear hblk hb5 ec0W3 ec1W3 ec2W3 ex0W3 ex1W3 ex2W3 ex3W3 ex4W3
        have ec0w5 : w5.cell? ⟨w.heap.size, 0, none⟩ = some (.int .i64 C.days) := cell_of_block Zcw5.out 0 (by simp)
        have ec1w5 : w5.cell? ⟨w.heap.size, 1, none⟩ = some (.slice C.aA C.nA C.cA) := cell_of_block Zcw5.out 1 (by simp)
        have ec2w5 : w5.cell? ⟨w.heap.size, 2, none⟩ = some (.slice C.aW C.nW C.cW) := cell_of_block Zcw5.out 2 (by simp)
        have lcw5 := (Array.getElem?_eq_some_iff.1 Zcw5.out).1
        have em0w5 : w5.cell? ⟨B5, 0, none⟩ = some (.int .i64 m.day) := cell_of_block Zm.out 0 (by simp)
        have em1w5 : w5.cell? ⟨B5, 1, none⟩ = some (.int .i64 m.alo) := cell_of_block Zm.out 1 (by simp)
        have em2w5 : w5.cell? ⟨B5, 2, none⟩ = some (.int .i64 m.ahi) := cell_of_block Zm.out 2 (by simp)
        have em3w5 : w5.cell? ⟨B5, 3, none⟩ = some (.int .i64 m.wlo) := cell_of_block Zm.out 3 (by simp)
        have em4w5 : w5.cell? ⟨B5, 4, none⟩ = some (.int .i64 m.whi) := cell_of_block Zm.out 4 (by simp)
        have lmw5 := (Array.getElem?_eq_some_iff.1 Zm.out).1
        go_upto_region 9 with (fail)
        simp only [Act.put, List.setIfInBounds_toArray, List.set_cons_succ, List.set_cons_zero]
        go_wp2_with fail
        refine (Calls.grown (AT2'.out _ (S5.out))).mono ?_
        rintro e w1 ⟨rfl, z4, rfl⟩
        go_upto_region 10 with (fail)
        obtain ⟨W6, hW6⟩ : ∃ W6, ((gw w5 z4)).alloc (.cells #[.int .i64 y.day, .int .i64 y.alo, .int .i64 y.ahi, .int .i64 y.wlo, .int .i64 y.whi] 28) = W6 := ⟨_, rfl⟩
        have hbW6 : Below w5.heap.size w5 W6 := by rw [← hW6]; exact (below_gw w5 z4).alloc (by simp [gw_size]) _
        have ZcW6 := Lib.hid ((hbW6.block _ (Array.getElem?_eq_some_iff.1 Zcw5.out).1).trans Zcw5.out)
        have ZxW6 := Lib.hid ((hbW6.block _ (Array.getElem?_eq_some_iff.1 Zxw5.out).1).trans Zxw5.out)
        have ZbW6 := Lib.hid ((hbW6.block _ (Array.getElem?_eq_some_iff.1 Zbw5.out).1).trans Zbw5.out)
        have ZyW6 := Lib.hid ((hbW6.block _ (Array.getElem?_eq_some_iff.1 Zyw5.out).1).trans Zyw5.out)
        have ZmW6 := Lib.hid ((hbW6.block _ (Array.getElem?_eq_some_iff.1 Zm.out).1).trans Zm.out)
        have zzW6 : W6.heap[w5.heap.size + z4.bs.size]? = some (.cells #[.int .i64 y.day, .int .i64 y.alo, .int .i64 y.ahi, .int .i64 y.wlo, .int .i64 y.whi] 28 (0, 0)) := by rw [← hW6]; exact alloc_at (by simp [gw_size])
        have ZzW6 := Lib.hid zzW6; clear zzW6
        have HBW6 := Lib.hid (thru hbW6 HBw5.out)
        have SBW6 := Lib.hid hbW6; clear hbW6
        have HWW6 := Lib.hid hW6; clear hW6
        rw [HWW6.out]
        clear ec0w5 ec1w5 ec2w5 em0w5 em1w5 em2w5 em3w5 em4w5
        have S6 := Lib.hid (S5.out.trans (SBW6.out.mono S5.out.size))
        have ey0W6 : W6.cell? ⟨W1.heap.size + z2.bs.size, 0, none⟩ = some (.int .i64 y.day) := cell_of_block ZyW6.out 0 (by simp)
        have ey1W6 : W6.cell? ⟨W1.heap.size + z2.bs.size, 1, none⟩ = some (.int .i64 y.alo) := cell_of_block ZyW6.out 1 (by simp)
        have ey2W6 : W6.cell? ⟨W1.heap.size + z2.bs.size, 2, none⟩ = some (.int .i64 y.ahi) := cell_of_block ZyW6.out 2 (by simp)
        have ey3W6 : W6.cell? ⟨W1.heap.size + z2.bs.size, 3, none⟩ = some (.int .i64 y.wlo) := cell_of_block ZyW6.out 3 (by simp)
        have ey4W6 : W6.cell? ⟨W1.heap.size + z2.bs.size, 4, none⟩ = some (.int .i64 y.whi) := cell_of_block ZyW6.out 4 (by simp)
        have lyW6 := (Array.getElem?_eq_some_iff.1 ZyW6.out).1
        have ez0W6 : W6.cell? ⟨w5.heap.size + z4.bs.size, 0, none⟩ = some (.int .i64 y.day) := cell_of_block ZzW6.out 0 (by simp)
        have ez1W6 : W6.cell? ⟨w5.heap.size + z4.bs.size, 1, none⟩ = some (.int .i64 y.alo) := cell_of_block ZzW6.out 1 (by simp)
        have ez2W6 : W6.cell? ⟨w5.heap.size + z4.bs.size, 2, none⟩ = some (.int .i64 y.ahi) := cell_of_block ZzW6.out 2 (by simp)
        have ez3W6 : W6.cell? ⟨w5.heap.size + z4.bs.size, 3, none⟩ = some (.int .i64 y.wlo) := cell_of_block ZzW6.out 3 (by simp)
        have ez4W6 : W6.cell? ⟨w5.heap.size + z4.bs.size, 4, none⟩ = some (.int .i64 y.whi) := cell_of_block ZzW6.out 4 (by simp)
        have lzW6 := (Array.getElem?_eq_some_iff.1 ZzW6.out).1
        have ec0W6 : W6.cell? ⟨w.heap.size, 0, none⟩ = some (.int .i64 C.days) := cell_of_block ZcW6.out 0 (by simp)
        have ec1W6 : W6.cell? ⟨w.heap.size, 1, none⟩ = some (.slice C.aA C.nA C.cA) := cell_of_block ZcW6.out 1 (by simp)
        have ec2W6 : W6.cell? ⟨w.heap.size, 2, none⟩ = some (.slice C.aW C.nW C.cW) := cell_of_block ZcW6.out 2 (by simp)
        have lcW6 := (Array.getElem?_eq_some_iff.1 ZcW6.out).1
        have ex0W6 : W6.cell? ⟨w.heap.size + 1, 0, none⟩ = some (.int .i64 x.day) := cell_of_block ZxW6.out 0 (by simp)
        have ex1W6 : W6.cell? ⟨w.heap.size + 1, 1, none⟩ = some (.int .i64 x.alo) := cell_of_block ZxW6.out 1 (by simp)
        have ex2W6 : W6.cell? ⟨w.heap.size + 1, 2, none⟩ = some (.int .i64 x.ahi) := cell_of_block ZxW6.out 2 (by simp)
        have ex3W6 : W6.cell? ⟨w.heap.size + 1, 3, none⟩ = some (.int .i64 x.wlo) := cell_of_block ZxW6.out 3 (by simp)
        have ex4W6 : W6.cell? ⟨w.heap.size + 1, 4, none⟩ = some (.int .i64 x.whi) := cell_of_block ZxW6.out 4 (by simp)
        have lxW6 := (Array.getElem?_eq_some_iff.1 ZxW6.out).1
        have eb0W6 : W6.cell? ⟨w.heap.size + 1 + 1, 0, none⟩ = some (.int .u32 b0) := cell_of_block ZbW6.out 0 (by simp)
        have eb1W6 : W6.cell? ⟨w.heap.size + 1 + 1, 1, none⟩ = some (.int .u32 b1) := cell_of_block ZbW6.out 1 (by simp)
        have eb2W6 : W6.cell? ⟨w.heap.size + 1 + 1, 2, none⟩ = some (.int .u32 b2) := cell_of_block ZbW6.out 2 (by simp)
        have eb3W6 : W6.cell? ⟨w.heap.size + 1 + 1, 3, none⟩ = some (.int .u32 b3) := cell_of_block ZbW6.out 3 (by simp)
        have lbW6 := (Array.getElem?_eq_some_iff.1 ZbW6.out).1
        go_upto_region 13 with (fail)
        refine wp_region_box1 [true, true, true, true, true, true, true, true, true, true, true, true, true, true, true, true, true, true, true, true, true, true, true, true, true, true, false, false, true] 26 27 #[.int .i64 0, .int .i64 0, .int .i64 0, .int .i64 0, .int .i64 0] #[.int .i64 u.day, .int .i64 u.alo, .int .i64 u.ahi, .int .i64 u.wlo, .int .i64 u.whi] (by kernel_rfl) rfl rfl rfl (by kernel_rfl) rfl (by kernel_rfl) infoCont rfl rfl (by simp [Value.oneCell']) ?_
        apply Exists.intro
        refine ⟨fun S hS hx => ?_, ?_, ?_⟩
        · obtain ⟨x0, hx0⟩ := hx
          haveI : Nonempty (GrewS W6 S) := ⟨⟨x0, hx0⟩⟩
          simp only [pickM]
          repeat (go_big_quiet_step (first | (go_at_call 17; with_reducible exact Calls.gwS hS (AT3'.out _ (S6.out.trans ((below_gw W6 _).mono S6.out.size)))) | (go_at_call 19; first | (with_reducible exact Calls.gwS hS (CU1'.out _)) | (with_reducible exact Calls.gwS hS (CU2'.out _)))))
          exact wpQuiet_nil rfl
        · rfl
        · intro B7 w7 hBw7 hblk hb7
          have Zu := Lib.hid hblk
          have Zyw7 := Lib.hid ((hb7.block _ (Array.getElem?_eq_some_iff.1 ZyW6.out).1).trans ZyW6.out)
          have HBw7 := Lib.hid (thru hb7 HBW6.out)
          clear hblk hb7 ey0W6 ey1W6 ey2W6 ey3W6 ey4W6 ez0W6 ez1W6 ez2W6 ez3W6 ez4W6 ex0W6 ex1W6 ex2W6 ex3W6 ex4W6 ec0W6 ec1W6 ec2W6 eb0W6 eb1W6 eb2W6 eb3W6
          have eu0w7 : w7.cell? ⟨B7, 0, none⟩ = some (.int .i64 u.day) := cell_of_block Zu.out 0 (by simp)
          have eu1w7 : w7.cell? ⟨B7, 1, none⟩ = some (.int .i64 u.alo) := cell_of_block Zu.out 1 (by simp)
          have eu2w7 : w7.cell? ⟨B7, 2, none⟩ = some (.int .i64 u.ahi) := cell_of_block Zu.out 2 (by simp)
          have eu3w7 : w7.cell? ⟨B7, 3, none⟩ = some (.int .i64 u.wlo) := cell_of_block Zu.out 3 (by simp)
          have eu4w7 : w7.cell? ⟨B7, 4, none⟩ = some (.int .i64 u.whi) := cell_of_block Zu.out 4 (by simp)
          have luw7 := (Array.getElem?_eq_some_iff.1 Zu.out).1
          have ey0w7 : w7.cell? ⟨W1.heap.size + z2.bs.size, 0, none⟩ = some (.int .i64 y.day) := cell_of_block Zyw7.out 0 (by simp)
          have ey1w7 : w7.cell? ⟨W1.heap.size + z2.bs.size, 1, none⟩ = some (.int .i64 y.alo) := cell_of_block Zyw7.out 1 (by simp)
          have ey2w7 : w7.cell? ⟨W1.heap.size + z2.bs.size, 2, none⟩ = some (.int .i64 y.ahi) := cell_of_block Zyw7.out 2 (by simp)
          have ey3w7 : w7.cell? ⟨W1.heap.size + z2.bs.size, 3, none⟩ = some (.int .i64 y.wlo) := cell_of_block Zyw7.out 3 (by simp)
          have ey4w7 : w7.cell? ⟨W1.heap.size + z2.bs.size, 4, none⟩ = some (.int .i64 y.whi) := cell_of_block Zyw7.out 4 (by simp)
          have lyw7 := (Array.getElem?_eq_some_iff.1 Zyw7.out).1
          go_upto_region 14 with (fail)
          simp only [Act.put, List.setIfInBounds_toArray, List.set_cons_succ, List.set_cons_zero]
          go_wp2_with fail
          refine (Calls.grown (splitIn_true _ _ _ _ _ (by assumption) (by assumption) (by assumption))).mono ?_
          rintro e w1 ⟨rfl, z5, rfl⟩
          go_wp2_with fail
          refine (Calls.gw_of (splitIn_true _ _ _ _ _ (by assumption) (by assumption) (by assumption))).mono ?_
          rintro e w1 ⟨rfl, z6, rfl⟩
          go_wp2_with fail
          refine (Calls.gw_of (alive_any _)).mono ?_
          rintro e w1 ⟨rfl, z7, rfl⟩
          go_wp2_with fail
          go_ret
          exact ⟨rfl, HBw7.out.gw z7⟩
    · have AT0 := fun W hb => AT x day W hb
      rw [atV_err h0, zero_val] at AT0
      clear AT
      generalize errH C x k F G day = E at *
      have ne : (E != 0) = true := by simpa using h0
      unfold Cont.val at AT0
      have AT0' := Lib.hid AT0; clear AT0 h0
      go_wp2_with fail
      refine (Calls.gw_of (AT0'.out _ (below_gw W1 z1))).mono ?_
      rintro e w1 ⟨rfl, z2, rfl⟩
      go_upto_region 4 with (fail)
      obtain ⟨W2, hW2⟩ : ∃ W2, ((gw W1 z2)).alloc (.cells #[.int .i64 0, .int .i64 0, .int .i64 0, .int .i64 0, .int .i64 0] 28) = W2 := ⟨_, rfl⟩
      have hbW2 : Below W1.heap.size W1 W2 := by rw [← hW2]; exact (below_gw W1 z2).alloc (by simp [gw_size]) _
      have ZcW2 := Lib.hid ((hbW2.block _ (Array.getElem?_eq_some_iff.1 Zc0.out).1).trans Zc0.out)
      have ZxW2 := Lib.hid ((hbW2.block _ (Array.getElem?_eq_some_iff.1 Zc1.out).1).trans Zc1.out)
      have ZbW2 := Lib.hid ((hbW2.block _ (Array.getElem?_eq_some_iff.1 Zc2.out).1).trans Zc2.out)
      have zyW2 : W2.heap[W1.heap.size + z2.bs.size]? = some (.cells #[.int .i64 0, .int .i64 0, .int .i64 0, .int .i64 0, .int .i64 0] 28 (0, 0)) := by rw [← hW2]; exact alloc_at (by simp [gw_size])
      have ZyW2 := Lib.hid zyW2; clear zyW2
      have HBW2 := Lib.hid (thru hbW2 HBc.out)
      have SBW2 := Lib.hid hbW2; clear hbW2
      have HWW2 := Lib.hid hW2; clear hW2
      rw [HWW2.out]
      clear c00 c01 c02 c10 c11 c12 c13 c14 c20 c21 c22 c23
      have S2 := Lib.hid SBW2.out
      have ey0W2 : W2.cell? ⟨W1.heap.size + z2.bs.size, 0, none⟩ = some (.int .i64 0) := cell_of_block ZyW2.out 0 (by simp)
      have ey1W2 : W2.cell? ⟨W1.heap.size + z2.bs.size, 1, none⟩ = some (.int .i64 0) := cell_of_block ZyW2.out 1 (by simp)
      have ey2W2 : W2.cell? ⟨W1.heap.size + z2.bs.size, 2, none⟩ = some (.int .i64 0) := cell_of_block ZyW2.out 2 (by simp)
      have ey3W2 : W2.cell? ⟨W1.heap.size + z2.bs.size, 3, none⟩ = some (.int .i64 0) := cell_of_block ZyW2.out 3 (by simp)
      have ey4W2 : W2.cell? ⟨W1.heap.size + z2.bs.size, 4, none⟩ = some (.int .i64 0) := cell_of_block ZyW2.out 4 (by simp)
      have lyW2 := (Array.getElem?_eq_some_iff.1 ZyW2.out).1
      go_wp2_with fail
      refine (Calls.grown (alive_any _)).mono ?_
      rintro e w1 ⟨rfl, z3, rfl⟩
      go_wp2_with fail
      go_ret
      exact ⟨rfl, HBW2.out.gw z3⟩
end Go.Proofs.Ytljofnmgddfljaa
