/- HouseWrong walked: it returns true. No conditions beyond each theorem's own. -/
import Derived.Test.YtljofnmgddfljaaCb
import Derived.Test.YtljofnmgddfljaaCe
import Derived.Test.YtljofnmgddfljaaEa
set_option linter.unusedVariables false
set_option linter.unusedSimpArgs false
set_option linter.unusedSectionVars false
set_option linter.constructorNameAsVariable false
namespace Go.Proofs.Ytljofnmgddfljaa
open Go.RowKit

attribute [local go_sem] gw_cell gw_frozen gw_size
attribute [local go_sem ↓] run_minZ run_maxZ

set_option maxHeartbeats 1000000 in
theorem wrongIn_true (al ah bl bh : Int) (w : World) (h1 : bl ≤ al) (h2 : al ≤ ah) (h3 : ah ≤ bh) :
    Calls Try.prog 32 #[.agg #[.int .i64 al, .int .i64 ah], .agg #[.int .i64 bl, .int .i64 bh]] w fun e w' => e = .returned (.bool true) ∧ Below w.heap.size w w' := by
  go_enter Try.func32, Try.ntmps32
  go_wp2
  go_ret
  exact ⟨rfl, (below_alloc _ _).alloc (by simp) _⟩

set_option maxRecDepth 100000 in
set_option maxHeartbeats 40000000 in
theorem wrong_any (C : Clim) (x : Cont) (aS : Option Addr) (k cS : Nat) (F G : Nat → Int) (m : Reg) (kk : Int) (w : World) (hC : C.In w) (hl : Lens C k) (hS : SpansAt w aS k F G) (hk0 : 0 ≤ kk) (hk1 : kk ≤ 65535) :
    Calls Try.prog 6 #[.agg #[.int .i64 C.days, .slice C.aA C.nA C.cA, .slice C.aW C.nW C.cW], x.val, .slice aS k cS, m.val, .int .u16 kk] w (True1 w) := by
  unfold Cont.val Reg.val
  obtain ⟨W1, hW1⟩ : ∃ W1, (((w.alloc (.cells #[.int .i64 C.days, .slice C.aA C.nA C.cA, .slice C.aW C.nW C.cW] 24)).alloc (.cells #[.int .i64 x.day, .int .i64 x.alo, .int .i64 x.ahi, .int .i64 x.wlo, .int .i64 x.whi] 28)).alloc (.cells #[.int .i64 m.day, .int .i64 m.vlo, .int .i64 m.vhi, .int .i64 m.slo, .int .i64 m.shi] 44)).alloc (.cells #[.int .i64 m.day] 3) = W1 := ⟨_, rfl⟩
  have hBc : Below w.heap.size w W1 := by rw [← hW1]; exact (((below_alloc _ _).alloc (by simp) _).alloc (by simp <;> omega) _).alloc (by simp <;> omega) _
  have zc0 : W1.heap[w.heap.size]? = some (.cells #[.int .i64 C.days, .slice C.aA C.nA C.cA, .slice C.aW C.nW C.cW] 24 (0, 0)) := by rw [← hW1]; exact alloc_keep (alloc_keep (alloc_keep (alloc_at rfl)))
  have zc1 : W1.heap[w.heap.size + 1]? = some (.cells #[.int .i64 x.day, .int .i64 x.alo, .int .i64 x.ahi, .int .i64 x.wlo, .int .i64 x.whi] 28 (0, 0)) := by rw [← hW1]; exact alloc_keep (alloc_keep (alloc_at (by simp)))
  have zc2 : W1.heap[w.heap.size + 1 + 1]? = some (.cells #[.int .i64 m.day, .int .i64 m.vlo, .int .i64 m.vhi, .int .i64 m.slo, .int .i64 m.shi] 44 (0, 0)) := by rw [← hW1]; exact alloc_keep (alloc_at (by simp <;> omega))
  have zc3 : W1.heap[w.heap.size + 1 + 1 + 1]? = some (.cells #[.int .i64 m.day] 3 (0, 0)) := by rw [← hW1]; exact alloc_at (by simp <;> omega)
  have c00 : W1.cell? ⟨w.heap.size, 0, none⟩ = some (.int .i64 C.days) := cell_of_block zc0 0 (by simp)
  have c01 : W1.cell? ⟨w.heap.size, 1, none⟩ = some (.slice C.aA C.nA C.cA) := cell_of_block zc0 1 (by simp)
  have c02 : W1.cell? ⟨w.heap.size, 2, none⟩ = some (.slice C.aW C.nW C.cW) := cell_of_block zc0 2 (by simp)
  have c10 : W1.cell? ⟨w.heap.size + 1, 0, none⟩ = some (.int .i64 x.day) := cell_of_block zc1 0 (by simp)
  have c11 : W1.cell? ⟨w.heap.size + 1, 1, none⟩ = some (.int .i64 x.alo) := cell_of_block zc1 1 (by simp)
  have c12 : W1.cell? ⟨w.heap.size + 1, 2, none⟩ = some (.int .i64 x.ahi) := cell_of_block zc1 2 (by simp)
  have c13 : W1.cell? ⟨w.heap.size + 1, 3, none⟩ = some (.int .i64 x.wlo) := cell_of_block zc1 3 (by simp)
  have c14 : W1.cell? ⟨w.heap.size + 1, 4, none⟩ = some (.int .i64 x.whi) := cell_of_block zc1 4 (by simp)
  have c20 : W1.cell? ⟨w.heap.size + 1 + 1, 0, none⟩ = some (.int .i64 m.day) := cell_of_block zc2 0 (by simp)
  have c21 : W1.cell? ⟨w.heap.size + 1 + 1, 1, none⟩ = some (.int .i64 m.vlo) := cell_of_block zc2 1 (by simp)
  have c22 : W1.cell? ⟨w.heap.size + 1 + 1, 2, none⟩ = some (.int .i64 m.vhi) := cell_of_block zc2 2 (by simp)
  have c23 : W1.cell? ⟨w.heap.size + 1 + 1, 3, none⟩ = some (.int .i64 m.slo) := cell_of_block zc2 3 (by simp)
  have c24 : W1.cell? ⟨w.heap.size + 1 + 1, 4, none⟩ = some (.int .i64 m.shi) := cell_of_block zc2 4 (by simp)
  have c30 : W1.cell? ⟨w.heap.size + 1 + 1 + 1, 0, none⟩ = some (.int .i64 m.day) := cell_of_block zc3 0 (by simp)
  have lc0 := (Array.getElem?_eq_some_iff.1 zc0).1
  have lc1 := (Array.getElem?_eq_some_iff.1 zc1).1
  have lc2 := (Array.getElem?_eq_some_iff.1 zc2).1
  have lc3 := (Array.getElem?_eq_some_iff.1 zc3).1
  have Zc0 := Lib.hid zc0
  have Zc1 := Lib.hid zc1
  have Zc2 := Lib.hid zc2
  clear zc0 zc1 zc2 zc3
  have HBc := Lib.hid hBc; clear hBc
  have HWc := Lib.hid hW1; clear hW1
  have GR := great_any C x aS k cS (some ⟨w.heap.size + 1 + 1 + 1, 0, none⟩) 1 1 (fun _ => m.day) W1 (hC.below HBc.out) hl (ints_one lc3 c30) (by omega)
  have HC := Lib.hid (hC.below HBc.out); clear hC
  have HS := Lib.hid (hS.below HBc.out); clear hS
  unfold Cont.val at GR
  have GR' := Lib.hid GR; clear GR c30
  go_enter Try.func6, Try.ntmps6
  go_wp2_with fail
  rw [HWc.out]
  go_wp2_with fail
  refine GR'.out.mono ?_
  rintro e w1 ⟨b, rfl, hg, hb⟩
  obtain ⟨z1, rfl⟩ := gw_of_below hb
  clear hb
  cases b with
  | true =>
    clear hg
    go_wp2_with fail
    refine (Calls.gw_of (alive_any _)).mono ?_
    rintro e w1 ⟨rfl, z2, rfl⟩
    go_wp2_with fail
    go_ret
    exact ⟨rfl, HBc.out.gw z2⟩
  | false =>
    have gd := hg rfl
    have hk : k ≤ 1000000000000000 := by have := gd.st; omega
    have ME := fun W (hb : Below W1.heap.size W1 W) => Measure_any C x aS k cS F G m W (HC.out.below hb) gd.fits hk (HS.out.below hb)
    have SH := fun W (hb : Below W1.heap.size W1 W) => Shows_any C x aS k cS F G m W (HC.out.below hb) gd.fits hk (HS.out.below hb)
    have AT := fun W (hb : Below W1.heap.size W1 W) => At_any C x aS k cS F G m.day W (HC.out.below hb) gd.fits hk (HS.out.below hb)
    have MO := fun W (hb : Below W1.heap.size W1 W) => Shows_any C x aS k cS F G (moreM m kk) W (HC.out.below hb) gd.fits hk (HS.out.below hb)
    have PR := fun W (hb : Below W1.heap.size W1 W) (h : regB m = true) => rMeasured_any m W h
    clear hg gd hk
    by_cases h0 : measE C x k F G m = 0
    · obtain ⟨hm, he, hy⟩ := measE_zero h0
      obtain ⟨hc, -⟩ := atV_cont he
      have hme := measC_ok hm
      have mE2 : measE C x k F G (moreM m kk) = 0 := by unfold measE; rw [if_pos (moreM_ok hm hk0)]; exact he
      have mA2 : measA C x k F G (moreM m kk) = measA C x k F G m := by unfold measA; rw [if_pos (moreM_ok hm hk0), if_pos hm]; rfl
      have sV : showV C x k F G m = showsN (measA C x k F G m) (measC m) := if_pos h0
      have sV2 : showV C x k F G (moreM m kk) = showsN (measA C x k F G m) (measC (moreM m kk)) := by unfold showV; rw [if_pos mE2, mA2]
      obtain ⟨v1, v2, v3, v4⟩ := moreM_wider hm hk0
      have LE := shows_more (hy ▸ hc) hme (measC_ok (moreM_ok hm hk0)) v1 v2 v3 v4
      rw [← sV2, ← sV] at LE
      have R3 := showsN_range (measA C x k F G m) (measC m)
      have S0 := showsN_zero (x := measA C x k F G m) (y := measC m)
      have S3 := showsN_three (x := measA C x k F G m) (y := measC m)
      have MI := meetC_in (x := measA C x k F G m) (y := measC m)
      have mF : measF C x k F G m = _ := if_pos h0
      have mV : measV C x k F G m = _ := if_pos h0
      rw [← sV] at R3 S0 S3
      have PR2 := fun W hb => PR W hb hm
      rw [h0] at SH
      rw [mE2] at MO
      rw [he] at AT
      rw [← hy] at AT
      rw [mF, mV] at ME
      have hya : contB (measA C x k F G m) = true := hy ▸ hc
      clear PR mF mV sV sV2 v1 v2 v3 v4 mE2 mA2 h0 he hy hc
      obtain ⟨r0, r1, r2⟩ := (contB_t hme).2.1
      obtain ⟨r3, r4, r5⟩ := (contB_t hme).2.2
      obtain ⟨q0, q1, q2⟩ := (contB_t hya).2.1
      obtain ⟨q3, q4, q5⟩ := (contB_t hya).2.2
      obtain ⟨⟨-, -⟩, ⟨u0, u1, u2⟩, -⟩ := regB_t hm
      have bm1 := mul_le r0 (show (measC m).alo ≤ 2147483648 by omega) q3 (show (measA C x k F G m).wlo ≤ 2147483648 by omega)
      have bm2 := mul_le (show 0 ≤ (measC m).whi by omega) r5 (show 0 ≤ (measA C x k F G m).ahi by omega) q2
      generalize showV C x k F G m = n at *
      generalize showV C x k F G (moreM m kk) = o at *
      generalize measA C x k F G m = y at *
      generalize measC m = u at *
      obtain ⟨bm11, bm12⟩ := bm1
      obtain ⟨bm21, bm22⟩ := bm2
      clear hme hya hm
      unfold Cont.val at SH AT
      unfold Reg.val at SH
      rw [show (moreM m kk).val = .agg #[.int .i64 m.day, .int .i64 (maxZ 0 (m.vlo - kk)), .int .i64 (minZ 2147483648 (m.vhi + kk)), .int .i64 m.slo, .int .i64 m.shi] from rfl] at MO
      unfold Cont.val at MO
      unfold Reg.val at PR2
      have SH' := Lib.hid SH; clear SH
      have AT' := Lib.hid AT; clear AT
      have MO' := Lib.hid MO; clear MO
      have PR' := Lib.hid PR2; clear PR2
      by_cases hb : meetB y u = true
      · obtain rfl := S0.2 hb
        rw [if_pos hb, if_pos hb] at ME
        obtain ⟨⟨i1, i2, i3⟩, ⟨j1, j2, j3⟩, ⟨i4, i5⟩, j4, j5⟩ := MI hb
        unfold Cont.val Reg.val at ME
        generalize meetC y u = v at *
        have ME' := Lib.hid ME; clear ME S0 S3 MI hb
        go_wp2_with fail
        refine (Calls.gw_of (SH'.out _ (below_gw W1 z1))).mono ?_
        rintro e w1 ⟨rfl, z2, rfl⟩
        go_wp2_with fail
        refine (Calls.gw_of (ME'.out _ (below_gw W1 z2))).mono ?_
        rintro e w1 ⟨rfl, z3, rfl⟩
        go_upto_region 5 with (fail)
        obtain ⟨W2, hW2⟩ : ∃ W2, ((gw W1 z3)).alloc (.cells #[.int .i64 v.day, .int .i64 v.alo, .int .i64 v.ahi, .int .i64 v.wlo, .int .i64 v.whi] 28) = W2 := ⟨_, rfl⟩
        have hbW2 : Below W1.heap.size W1 W2 := by rw [← hW2]; exact (below_gw W1 z3).alloc (by simp [gw_size]) _
        have ZcW2 := Lib.hid ((hbW2.block _ (Array.getElem?_eq_some_iff.1 Zc0.out).1).trans Zc0.out)
        have ZxW2 := Lib.hid ((hbW2.block _ (Array.getElem?_eq_some_iff.1 Zc1.out).1).trans Zc1.out)
        have ZmW2 := Lib.hid ((hbW2.block _ (Array.getElem?_eq_some_iff.1 Zc2.out).1).trans Zc2.out)
        have zvW2 : W2.heap[W1.heap.size + z3.bs.size]? = some (.cells #[.int .i64 v.day, .int .i64 v.alo, .int .i64 v.ahi, .int .i64 v.wlo, .int .i64 v.whi] 28 (0, 0)) := by rw [← hW2]; exact alloc_at (by simp [gw_size])
        have ZvW2 := Lib.hid zvW2; clear zvW2
        have HBW2 := Lib.hid (thru hbW2 HBc.out)
        have SBW2 := Lib.hid hbW2; clear hbW2
        have HWW2 := Lib.hid hW2; clear hW2
        rw [HWW2.out]
        clear c00 c01 c02 c10 c11 c12 c13 c14 c20 c21 c22 c23 c24
        have S2 := Lib.hid SBW2.out
        have ec0W2 : W2.cell? ⟨w.heap.size, 0, none⟩ = some (.int .i64 C.days) := cell_of_block ZcW2.out 0 (by simp)
        have ec1W2 : W2.cell? ⟨w.heap.size, 1, none⟩ = some (.slice C.aA C.nA C.cA) := cell_of_block ZcW2.out 1 (by simp)
        have ec2W2 : W2.cell? ⟨w.heap.size, 2, none⟩ = some (.slice C.aW C.nW C.cW) := cell_of_block ZcW2.out 2 (by simp)
        have lcW2 := (Array.getElem?_eq_some_iff.1 ZcW2.out).1
        have ex0W2 : W2.cell? ⟨w.heap.size + 1, 0, none⟩ = some (.int .i64 x.day) := cell_of_block ZxW2.out 0 (by simp)
        have ex1W2 : W2.cell? ⟨w.heap.size + 1, 1, none⟩ = some (.int .i64 x.alo) := cell_of_block ZxW2.out 1 (by simp)
        have ex2W2 : W2.cell? ⟨w.heap.size + 1, 2, none⟩ = some (.int .i64 x.ahi) := cell_of_block ZxW2.out 2 (by simp)
        have ex3W2 : W2.cell? ⟨w.heap.size + 1, 3, none⟩ = some (.int .i64 x.wlo) := cell_of_block ZxW2.out 3 (by simp)
        have ex4W2 : W2.cell? ⟨w.heap.size + 1, 4, none⟩ = some (.int .i64 x.whi) := cell_of_block ZxW2.out 4 (by simp)
        have lxW2 := (Array.getElem?_eq_some_iff.1 ZxW2.out).1
        have em0W2 : W2.cell? ⟨w.heap.size + 1 + 1, 0, none⟩ = some (.int .i64 m.day) := cell_of_block ZmW2.out 0 (by simp)
        have em1W2 : W2.cell? ⟨w.heap.size + 1 + 1, 1, none⟩ = some (.int .i64 m.vlo) := cell_of_block ZmW2.out 1 (by simp)
        have em2W2 : W2.cell? ⟨w.heap.size + 1 + 1, 2, none⟩ = some (.int .i64 m.vhi) := cell_of_block ZmW2.out 2 (by simp)
        have em3W2 : W2.cell? ⟨w.heap.size + 1 + 1, 3, none⟩ = some (.int .i64 m.slo) := cell_of_block ZmW2.out 3 (by simp)
        have em4W2 : W2.cell? ⟨w.heap.size + 1 + 1, 4, none⟩ = some (.int .i64 m.shi) := cell_of_block ZmW2.out 4 (by simp)
        have lmW2 := (Array.getElem?_eq_some_iff.1 ZmW2.out).1
        go_wp2_with fail
        refine (Calls.grown (AT'.out _ (S2.out))).mono ?_
        rintro e w1 ⟨rfl, z4, rfl⟩
        go_upto_region 6 with (fail)
        obtain ⟨W3, hW3⟩ : ∃ W3, ((gw W2 z4)).alloc (.cells #[.int .i64 y.day, .int .i64 y.alo, .int .i64 y.ahi, .int .i64 y.wlo, .int .i64 y.whi] 28) = W3 := ⟨_, rfl⟩
        have hbW3 : Below W2.heap.size W2 W3 := by rw [← hW3]; exact (below_gw W2 z4).alloc (by simp [gw_size]) _
        have ZcW3 := Lib.hid ((hbW3.block _ (Array.getElem?_eq_some_iff.1 ZcW2.out).1).trans ZcW2.out)
        have ZxW3 := Lib.hid ((hbW3.block _ (Array.getElem?_eq_some_iff.1 ZxW2.out).1).trans ZxW2.out)
        have ZmW3 := Lib.hid ((hbW3.block _ (Array.getElem?_eq_some_iff.1 ZmW2.out).1).trans ZmW2.out)
        have ZvW3 := Lib.hid ((hbW3.block _ (Array.getElem?_eq_some_iff.1 ZvW2.out).1).trans ZvW2.out)
        have zyW3 : W3.heap[W2.heap.size + z4.bs.size]? = some (.cells #[.int .i64 y.day, .int .i64 y.alo, .int .i64 y.ahi, .int .i64 y.wlo, .int .i64 y.whi] 28 (0, 0)) := by rw [← hW3]; exact alloc_at (by simp [gw_size])
        have ZyW3 := Lib.hid zyW3; clear zyW3
        have HBW3 := Lib.hid (thru hbW3 HBW2.out)
        have SBW3 := Lib.hid hbW3; clear hbW3
        have HWW3 := Lib.hid hW3; clear hW3
        rw [HWW3.out]
        clear ec0W2 ec1W2 ec2W2 ex0W2 ex1W2 ex2W2 ex3W2 ex4W2 em0W2 em1W2 em2W2 em3W2 em4W2
        have S3 := Lib.hid (S2.out.trans (SBW3.out.mono S2.out.size))
        have ec0W3 : W3.cell? ⟨w.heap.size, 0, none⟩ = some (.int .i64 C.days) := cell_of_block ZcW3.out 0 (by simp)
        have ec1W3 : W3.cell? ⟨w.heap.size, 1, none⟩ = some (.slice C.aA C.nA C.cA) := cell_of_block ZcW3.out 1 (by simp)
        have ec2W3 : W3.cell? ⟨w.heap.size, 2, none⟩ = some (.slice C.aW C.nW C.cW) := cell_of_block ZcW3.out 2 (by simp)
        have lcW3 := (Array.getElem?_eq_some_iff.1 ZcW3.out).1
        have ex0W3 : W3.cell? ⟨w.heap.size + 1, 0, none⟩ = some (.int .i64 x.day) := cell_of_block ZxW3.out 0 (by simp)
        have ex1W3 : W3.cell? ⟨w.heap.size + 1, 1, none⟩ = some (.int .i64 x.alo) := cell_of_block ZxW3.out 1 (by simp)
        have ex2W3 : W3.cell? ⟨w.heap.size + 1, 2, none⟩ = some (.int .i64 x.ahi) := cell_of_block ZxW3.out 2 (by simp)
        have ex3W3 : W3.cell? ⟨w.heap.size + 1, 3, none⟩ = some (.int .i64 x.wlo) := cell_of_block ZxW3.out 3 (by simp)
        have ex4W3 : W3.cell? ⟨w.heap.size + 1, 4, none⟩ = some (.int .i64 x.whi) := cell_of_block ZxW3.out 4 (by simp)
        have lxW3 := (Array.getElem?_eq_some_iff.1 ZxW3.out).1
        have em0W3 : W3.cell? ⟨w.heap.size + 1 + 1, 0, none⟩ = some (.int .i64 m.day) := cell_of_block ZmW3.out 0 (by simp)
        have em1W3 : W3.cell? ⟨w.heap.size + 1 + 1, 1, none⟩ = some (.int .i64 m.vlo) := cell_of_block ZmW3.out 1 (by simp)
        have em2W3 : W3.cell? ⟨w.heap.size + 1 + 1, 2, none⟩ = some (.int .i64 m.vhi) := cell_of_block ZmW3.out 2 (by simp)
        have em3W3 : W3.cell? ⟨w.heap.size + 1 + 1, 3, none⟩ = some (.int .i64 m.slo) := cell_of_block ZmW3.out 3 (by simp)
        have em4W3 : W3.cell? ⟨w.heap.size + 1 + 1, 4, none⟩ = some (.int .i64 m.shi) := cell_of_block ZmW3.out 4 (by simp)
        have lmW3 := (Array.getElem?_eq_some_iff.1 ZmW3.out).1
        go_wp2_with fail
        refine (Calls.grown (PR'.out _ (S3.out))).mono ?_
        rintro e w1 ⟨rfl, z5, rfl⟩
        go_upto_region 11 with (fail)
        obtain ⟨W4, hW4⟩ : ∃ W4, (((gw W3 z5)).alloc (.cells #[.int .i64 u.alo, .int .i64 u.ahi] 26)).alloc (.cells #[.int .i64 u.wlo, .int .i64 u.whi] 26) = W4 := ⟨_, rfl⟩
        have hbW4 : Below W3.heap.size W3 W4 := by rw [← hW4]; exact ((below_gw W3 z5).alloc (by simp [gw_size]) _).alloc (by simp [gw_size] <;> omega) _
        have ZcW4 := Lib.hid ((hbW4.block _ (Array.getElem?_eq_some_iff.1 ZcW3.out).1).trans ZcW3.out)
        have ZxW4 := Lib.hid ((hbW4.block _ (Array.getElem?_eq_some_iff.1 ZxW3.out).1).trans ZxW3.out)
        have ZmW4 := Lib.hid ((hbW4.block _ (Array.getElem?_eq_some_iff.1 ZmW3.out).1).trans ZmW3.out)
        have ZvW4 := Lib.hid ((hbW4.block _ (Array.getElem?_eq_some_iff.1 ZvW3.out).1).trans ZvW3.out)
        have ZyW4 := Lib.hid ((hbW4.block _ (Array.getElem?_eq_some_iff.1 ZyW3.out).1).trans ZyW3.out)
        have zgW4 : W4.heap[W3.heap.size + z5.bs.size]? = some (.cells #[.int .i64 u.alo, .int .i64 u.ahi] 26 (0, 0)) := by rw [← hW4]; exact alloc_keep (alloc_at (by simp [gw_size]))
        have ZgW4 := Lib.hid zgW4; clear zgW4
        have zhW4 : W4.heap[W3.heap.size + z5.bs.size + 1]? = some (.cells #[.int .i64 u.wlo, .int .i64 u.whi] 26 (0, 0)) := by rw [← hW4]; exact alloc_at (by simp [gw_size] <;> omega)
        have ZhW4 := Lib.hid zhW4; clear zhW4
        have HBW4 := Lib.hid (thru hbW4 HBW3.out)
        have SBW4 := Lib.hid hbW4; clear hbW4
        have HWW4 := Lib.hid hW4; clear hW4
        rw [HWW4.out]
        clear ec0W3 ec1W3 ec2W3 ex0W3 ex1W3 ex2W3 ex3W3 ex4W3 em0W3 em1W3 em2W3 em3W3 em4W3
        have S4 := Lib.hid (S3.out.trans (SBW4.out.mono S3.out.size))
        have ec0W4 : W4.cell? ⟨w.heap.size, 0, none⟩ = some (.int .i64 C.days) := cell_of_block ZcW4.out 0 (by simp)
        have ec1W4 : W4.cell? ⟨w.heap.size, 1, none⟩ = some (.slice C.aA C.nA C.cA) := cell_of_block ZcW4.out 1 (by simp)
        have ec2W4 : W4.cell? ⟨w.heap.size, 2, none⟩ = some (.slice C.aW C.nW C.cW) := cell_of_block ZcW4.out 2 (by simp)
        have lcW4 := (Array.getElem?_eq_some_iff.1 ZcW4.out).1
        have ex0W4 : W4.cell? ⟨w.heap.size + 1, 0, none⟩ = some (.int .i64 x.day) := cell_of_block ZxW4.out 0 (by simp)
        have ex1W4 : W4.cell? ⟨w.heap.size + 1, 1, none⟩ = some (.int .i64 x.alo) := cell_of_block ZxW4.out 1 (by simp)
        have ex2W4 : W4.cell? ⟨w.heap.size + 1, 2, none⟩ = some (.int .i64 x.ahi) := cell_of_block ZxW4.out 2 (by simp)
        have ex3W4 : W4.cell? ⟨w.heap.size + 1, 3, none⟩ = some (.int .i64 x.wlo) := cell_of_block ZxW4.out 3 (by simp)
        have ex4W4 : W4.cell? ⟨w.heap.size + 1, 4, none⟩ = some (.int .i64 x.whi) := cell_of_block ZxW4.out 4 (by simp)
        have lxW4 := (Array.getElem?_eq_some_iff.1 ZxW4.out).1
        have em0W4 : W4.cell? ⟨w.heap.size + 1 + 1, 0, none⟩ = some (.int .i64 m.day) := cell_of_block ZmW4.out 0 (by simp)
        have em1W4 : W4.cell? ⟨w.heap.size + 1 + 1, 1, none⟩ = some (.int .i64 m.vlo) := cell_of_block ZmW4.out 1 (by simp)
        have em2W4 : W4.cell? ⟨w.heap.size + 1 + 1, 2, none⟩ = some (.int .i64 m.vhi) := cell_of_block ZmW4.out 2 (by simp)
        have em3W4 : W4.cell? ⟨w.heap.size + 1 + 1, 3, none⟩ = some (.int .i64 m.slo) := cell_of_block ZmW4.out 3 (by simp)
        have em4W4 : W4.cell? ⟨w.heap.size + 1 + 1, 4, none⟩ = some (.int .i64 m.shi) := cell_of_block ZmW4.out 4 (by simp)
        have lmW4 := (Array.getElem?_eq_some_iff.1 ZmW4.out).1
        have ev0W4 : W4.cell? ⟨W1.heap.size + z3.bs.size, 0, none⟩ = some (.int .i64 v.day) := cell_of_block ZvW4.out 0 (by simp)
        have ev1W4 : W4.cell? ⟨W1.heap.size + z3.bs.size, 1, none⟩ = some (.int .i64 v.alo) := cell_of_block ZvW4.out 1 (by simp)
        have ev2W4 : W4.cell? ⟨W1.heap.size + z3.bs.size, 2, none⟩ = some (.int .i64 v.ahi) := cell_of_block ZvW4.out 2 (by simp)
        have ev3W4 : W4.cell? ⟨W1.heap.size + z3.bs.size, 3, none⟩ = some (.int .i64 v.wlo) := cell_of_block ZvW4.out 3 (by simp)
        have ev4W4 : W4.cell? ⟨W1.heap.size + z3.bs.size, 4, none⟩ = some (.int .i64 v.whi) := cell_of_block ZvW4.out 4 (by simp)
        have lvW4 := (Array.getElem?_eq_some_iff.1 ZvW4.out).1
        have ey0W4 : W4.cell? ⟨W2.heap.size + z4.bs.size, 0, none⟩ = some (.int .i64 y.day) := cell_of_block ZyW4.out 0 (by simp)
        have ey1W4 : W4.cell? ⟨W2.heap.size + z4.bs.size, 1, none⟩ = some (.int .i64 y.alo) := cell_of_block ZyW4.out 1 (by simp)
        have ey2W4 : W4.cell? ⟨W2.heap.size + z4.bs.size, 2, none⟩ = some (.int .i64 y.ahi) := cell_of_block ZyW4.out 2 (by simp)
        have ey3W4 : W4.cell? ⟨W2.heap.size + z4.bs.size, 3, none⟩ = some (.int .i64 y.wlo) := cell_of_block ZyW4.out 3 (by simp)
        have ey4W4 : W4.cell? ⟨W2.heap.size + z4.bs.size, 4, none⟩ = some (.int .i64 y.whi) := cell_of_block ZyW4.out 4 (by simp)
        have lyW4 := (Array.getElem?_eq_some_iff.1 ZyW4.out).1
        have eg0W4 : W4.cell? ⟨W3.heap.size + z5.bs.size, 0, none⟩ = some (.int .i64 u.alo) := cell_of_block ZgW4.out 0 (by simp)
        have eg1W4 : W4.cell? ⟨W3.heap.size + z5.bs.size, 1, none⟩ = some (.int .i64 u.ahi) := cell_of_block ZgW4.out 1 (by simp)
        have lgW4 := (Array.getElem?_eq_some_iff.1 ZgW4.out).1
        have eh0W4 : W4.cell? ⟨W3.heap.size + z5.bs.size + 1, 0, none⟩ = some (.int .i64 u.wlo) := cell_of_block ZhW4.out 0 (by simp)
        have eh1W4 : W4.cell? ⟨W3.heap.size + z5.bs.size + 1, 1, none⟩ = some (.int .i64 u.whi) := cell_of_block ZhW4.out 1 (by simp)
        have lhW4 := (Array.getElem?_eq_some_iff.1 ZhW4.out).1
        go_wp2_with fail
        refine (Calls.grown (wrongIn_true _ _ _ _ _ (by assumption) (by assumption) (by assumption))).mono ?_
        rintro e w1 ⟨rfl, z6, rfl⟩
        go_wp2_with fail
        refine (Calls.gw_of (wrongIn_true _ _ _ _ _ (by assumption) (by assumption) (by assumption))).mono ?_
        rintro e w1 ⟨rfl, z7, rfl⟩
        go_wp2_with fail
        refine (Calls.gw_of (wrongIn_true _ _ _ _ _ (by assumption) (by assumption) (by assumption))).mono ?_
        rintro e w1 ⟨rfl, z8, rfl⟩
        go_wp2_with fail
        refine (Calls.gw_of (wrongIn_true _ _ _ _ _ (by assumption) (by assumption) (by assumption))).mono ?_
        rintro e w1 ⟨rfl, z9, rfl⟩
        go_upto_region 18 with (fail)
        obtain ⟨W5, hW5⟩ : ∃ W5, ((gw W4 z9)).alloc (.cells #[.int .i64 m.day, .int .i64 (maxZ 0 (m.vlo - kk)), .int .i64 (minZ 2147483648 (m.vhi + kk)), .int .i64 m.slo, .int .i64 m.shi] 44) = W5 := ⟨_, rfl⟩
        have hbW5 : Below W4.heap.size W4 W5 := by rw [← hW5]; exact (below_gw W4 z9).alloc (by simp [gw_size]) _
        have ZcW5 := Lib.hid ((hbW5.block _ (Array.getElem?_eq_some_iff.1 ZcW4.out).1).trans ZcW4.out)
        have ZxW5 := Lib.hid ((hbW5.block _ (Array.getElem?_eq_some_iff.1 ZxW4.out).1).trans ZxW4.out)
        have ZmW5 := Lib.hid ((hbW5.block _ (Array.getElem?_eq_some_iff.1 ZmW4.out).1).trans ZmW4.out)
        have ZvW5 := Lib.hid ((hbW5.block _ (Array.getElem?_eq_some_iff.1 ZvW4.out).1).trans ZvW4.out)
        have ZyW5 := Lib.hid ((hbW5.block _ (Array.getElem?_eq_some_iff.1 ZyW4.out).1).trans ZyW4.out)
        have ZgW5 := Lib.hid ((hbW5.block _ (Array.getElem?_eq_some_iff.1 ZgW4.out).1).trans ZgW4.out)
        have ZhW5 := Lib.hid ((hbW5.block _ (Array.getElem?_eq_some_iff.1 ZhW4.out).1).trans ZhW4.out)
        have zoW5 : W5.heap[W4.heap.size + z9.bs.size]? = some (.cells #[.int .i64 m.day, .int .i64 (maxZ 0 (m.vlo - kk)), .int .i64 (minZ 2147483648 (m.vhi + kk)), .int .i64 m.slo, .int .i64 m.shi] 44 (0, 0)) := by rw [← hW5]; exact alloc_at (by simp [gw_size])
        have ZoW5 := Lib.hid zoW5; clear zoW5
        have HBW5 := Lib.hid (thru hbW5 HBW4.out)
        have SBW5 := Lib.hid hbW5; clear hbW5
        have HWW5 := Lib.hid hW5; clear hW5
        rw [HWW5.out]
        clear ec0W4 ec1W4 ec2W4 ex0W4 ex1W4 ex2W4 ex3W4 ex4W4 em0W4 em1W4 em2W4 em3W4 em4W4 ev0W4 ev1W4 ev2W4 ev3W4 ev4W4 ey0W4 ey1W4 ey2W4 ey3W4 ey4W4 eg0W4 eg1W4 eh0W4 eh1W4 r0 r1 r2 r3 r4 r5 q0 q1 q2 q3 q4 q5 bm11 bm12 bm21 bm22 i1 i2 i3 i4 i5 j1 j2 j3 j4 j5
        have S5 := Lib.hid (S4.out.trans (SBW5.out.mono S4.out.size))
        have ec0W5 : W5.cell? ⟨w.heap.size, 0, none⟩ = some (.int .i64 C.days) := cell_of_block ZcW5.out 0 (by simp)
        have ec1W5 : W5.cell? ⟨w.heap.size, 1, none⟩ = some (.slice C.aA C.nA C.cA) := cell_of_block ZcW5.out 1 (by simp)
        have ec2W5 : W5.cell? ⟨w.heap.size, 2, none⟩ = some (.slice C.aW C.nW C.cW) := cell_of_block ZcW5.out 2 (by simp)
        have lcW5 := (Array.getElem?_eq_some_iff.1 ZcW5.out).1
        have ex0W5 : W5.cell? ⟨w.heap.size + 1, 0, none⟩ = some (.int .i64 x.day) := cell_of_block ZxW5.out 0 (by simp)
        have ex1W5 : W5.cell? ⟨w.heap.size + 1, 1, none⟩ = some (.int .i64 x.alo) := cell_of_block ZxW5.out 1 (by simp)
        have ex2W5 : W5.cell? ⟨w.heap.size + 1, 2, none⟩ = some (.int .i64 x.ahi) := cell_of_block ZxW5.out 2 (by simp)
        have ex3W5 : W5.cell? ⟨w.heap.size + 1, 3, none⟩ = some (.int .i64 x.wlo) := cell_of_block ZxW5.out 3 (by simp)
        have ex4W5 : W5.cell? ⟨w.heap.size + 1, 4, none⟩ = some (.int .i64 x.whi) := cell_of_block ZxW5.out 4 (by simp)
        have lxW5 := (Array.getElem?_eq_some_iff.1 ZxW5.out).1
        have eo0W5 : W5.cell? ⟨W4.heap.size + z9.bs.size, 0, none⟩ = some (.int .i64 m.day) := cell_of_block ZoW5.out 0 (by simp)
        have eo1W5 : W5.cell? ⟨W4.heap.size + z9.bs.size, 1, none⟩ = some (.int .i64 (maxZ 0 (m.vlo - kk))) := cell_of_block ZoW5.out 1 (by simp)
        have eo2W5 : W5.cell? ⟨W4.heap.size + z9.bs.size, 2, none⟩ = some (.int .i64 (minZ 2147483648 (m.vhi + kk))) := cell_of_block ZoW5.out 2 (by simp)
        have eo3W5 : W5.cell? ⟨W4.heap.size + z9.bs.size, 3, none⟩ = some (.int .i64 m.slo) := cell_of_block ZoW5.out 3 (by simp)
        have eo4W5 : W5.cell? ⟨W4.heap.size + z9.bs.size, 4, none⟩ = some (.int .i64 m.shi) := cell_of_block ZoW5.out 4 (by simp)
        have loW5 := (Array.getElem?_eq_some_iff.1 ZoW5.out).1
        go_wp2_with fail
        refine (Calls.grown (MO'.out _ (S5.out))).mono ?_
        rintro e w1 ⟨rfl, z10, rfl⟩
        go_wp2_with fail
        refine (Calls.gw_of (alive_any _)).mono ?_
        rintro e w1 ⟨rfl, z11, rfl⟩
        go_wp2_with fail
        go_ret
        exact ⟨rfl, HBW5.out.gw z11⟩
      · have n0 : n ≠ 0 := fun h => hb (S0.1 h)
        rw [if_neg hb, if_neg hb, zero_val] at ME
        unfold Cont.val Reg.val at ME
        have ME' := Lib.hid ME; clear ME S0 MI hb
        have nn : (n == 0) = false := by simpa using n0
        by_cases n3 : n = 3
        · have S3' := S3 n3
          subst n3
          clear S3
          by_cases p1 : u.alo ≤ y.ahi
          · have p2 : ¬ u.alo * y.wlo ≤ u.whi * y.ahi := by omega
            clear S3'
            go_wp2_with fail
            refine (Calls.gw_of (SH'.out _ (below_gw W1 z1))).mono ?_
            rintro e w1 ⟨rfl, z2, rfl⟩
            go_wp2_with fail
            refine (Calls.gw_of (ME'.out _ (below_gw W1 z2))).mono ?_
            rintro e w1 ⟨rfl, z3, rfl⟩
            go_upto_region 5 with (fail)
            obtain ⟨W2, hW2⟩ : ∃ W2, ((gw W1 z3)).alloc (.cells #[.int .i64 0, .int .i64 0, .int .i64 0, .int .i64 0, .int .i64 0] 28) = W2 := ⟨_, rfl⟩
            have hbW2 : Below W1.heap.size W1 W2 := by rw [← hW2]; exact (below_gw W1 z3).alloc (by simp [gw_size]) _
            have ZcW2 := Lib.hid ((hbW2.block _ (Array.getElem?_eq_some_iff.1 Zc0.out).1).trans Zc0.out)
            have ZxW2 := Lib.hid ((hbW2.block _ (Array.getElem?_eq_some_iff.1 Zc1.out).1).trans Zc1.out)
            have ZmW2 := Lib.hid ((hbW2.block _ (Array.getElem?_eq_some_iff.1 Zc2.out).1).trans Zc2.out)
            have zvW2 : W2.heap[W1.heap.size + z3.bs.size]? = some (.cells #[.int .i64 0, .int .i64 0, .int .i64 0, .int .i64 0, .int .i64 0] 28 (0, 0)) := by rw [← hW2]; exact alloc_at (by simp [gw_size])
            have ZvW2 := Lib.hid zvW2; clear zvW2
            have HBW2 := Lib.hid (thru hbW2 HBc.out)
            have SBW2 := Lib.hid hbW2; clear hbW2
            have HWW2 := Lib.hid hW2; clear hW2
            rw [HWW2.out]
            clear c00 c01 c02 c10 c11 c12 c13 c14 c20 c21 c22 c23 c24
            have S2 := Lib.hid SBW2.out
            have ec0W2 : W2.cell? ⟨w.heap.size, 0, none⟩ = some (.int .i64 C.days) := cell_of_block ZcW2.out 0 (by simp)
            have ec1W2 : W2.cell? ⟨w.heap.size, 1, none⟩ = some (.slice C.aA C.nA C.cA) := cell_of_block ZcW2.out 1 (by simp)
            have ec2W2 : W2.cell? ⟨w.heap.size, 2, none⟩ = some (.slice C.aW C.nW C.cW) := cell_of_block ZcW2.out 2 (by simp)
            have lcW2 := (Array.getElem?_eq_some_iff.1 ZcW2.out).1
            have ex0W2 : W2.cell? ⟨w.heap.size + 1, 0, none⟩ = some (.int .i64 x.day) := cell_of_block ZxW2.out 0 (by simp)
            have ex1W2 : W2.cell? ⟨w.heap.size + 1, 1, none⟩ = some (.int .i64 x.alo) := cell_of_block ZxW2.out 1 (by simp)
            have ex2W2 : W2.cell? ⟨w.heap.size + 1, 2, none⟩ = some (.int .i64 x.ahi) := cell_of_block ZxW2.out 2 (by simp)
            have ex3W2 : W2.cell? ⟨w.heap.size + 1, 3, none⟩ = some (.int .i64 x.wlo) := cell_of_block ZxW2.out 3 (by simp)
            have ex4W2 : W2.cell? ⟨w.heap.size + 1, 4, none⟩ = some (.int .i64 x.whi) := cell_of_block ZxW2.out 4 (by simp)
            have lxW2 := (Array.getElem?_eq_some_iff.1 ZxW2.out).1
            have em0W2 : W2.cell? ⟨w.heap.size + 1 + 1, 0, none⟩ = some (.int .i64 m.day) := cell_of_block ZmW2.out 0 (by simp)
            have em1W2 : W2.cell? ⟨w.heap.size + 1 + 1, 1, none⟩ = some (.int .i64 m.vlo) := cell_of_block ZmW2.out 1 (by simp)
            have em2W2 : W2.cell? ⟨w.heap.size + 1 + 1, 2, none⟩ = some (.int .i64 m.vhi) := cell_of_block ZmW2.out 2 (by simp)
            have em3W2 : W2.cell? ⟨w.heap.size + 1 + 1, 3, none⟩ = some (.int .i64 m.slo) := cell_of_block ZmW2.out 3 (by simp)
            have em4W2 : W2.cell? ⟨w.heap.size + 1 + 1, 4, none⟩ = some (.int .i64 m.shi) := cell_of_block ZmW2.out 4 (by simp)
            have lmW2 := (Array.getElem?_eq_some_iff.1 ZmW2.out).1
            go_wp2_with fail
            refine (Calls.grown (AT'.out _ (S2.out))).mono ?_
            rintro e w1 ⟨rfl, z4, rfl⟩
            go_upto_region 6 with (fail)
            obtain ⟨W3, hW3⟩ : ∃ W3, ((gw W2 z4)).alloc (.cells #[.int .i64 y.day, .int .i64 y.alo, .int .i64 y.ahi, .int .i64 y.wlo, .int .i64 y.whi] 28) = W3 := ⟨_, rfl⟩
            have hbW3 : Below W2.heap.size W2 W3 := by rw [← hW3]; exact (below_gw W2 z4).alloc (by simp [gw_size]) _
            have ZcW3 := Lib.hid ((hbW3.block _ (Array.getElem?_eq_some_iff.1 ZcW2.out).1).trans ZcW2.out)
            have ZxW3 := Lib.hid ((hbW3.block _ (Array.getElem?_eq_some_iff.1 ZxW2.out).1).trans ZxW2.out)
            have ZmW3 := Lib.hid ((hbW3.block _ (Array.getElem?_eq_some_iff.1 ZmW2.out).1).trans ZmW2.out)
            have ZvW3 := Lib.hid ((hbW3.block _ (Array.getElem?_eq_some_iff.1 ZvW2.out).1).trans ZvW2.out)
            have zyW3 : W3.heap[W2.heap.size + z4.bs.size]? = some (.cells #[.int .i64 y.day, .int .i64 y.alo, .int .i64 y.ahi, .int .i64 y.wlo, .int .i64 y.whi] 28 (0, 0)) := by rw [← hW3]; exact alloc_at (by simp [gw_size])
            have ZyW3 := Lib.hid zyW3; clear zyW3
            have HBW3 := Lib.hid (thru hbW3 HBW2.out)
            have SBW3 := Lib.hid hbW3; clear hbW3
            have HWW3 := Lib.hid hW3; clear hW3
            rw [HWW3.out]
            clear ec0W2 ec1W2 ec2W2 ex0W2 ex1W2 ex2W2 ex3W2 ex4W2 em0W2 em1W2 em2W2 em3W2 em4W2
            have S3 := Lib.hid (S2.out.trans (SBW3.out.mono S2.out.size))
            have ec0W3 : W3.cell? ⟨w.heap.size, 0, none⟩ = some (.int .i64 C.days) := cell_of_block ZcW3.out 0 (by simp)
            have ec1W3 : W3.cell? ⟨w.heap.size, 1, none⟩ = some (.slice C.aA C.nA C.cA) := cell_of_block ZcW3.out 1 (by simp)
            have ec2W3 : W3.cell? ⟨w.heap.size, 2, none⟩ = some (.slice C.aW C.nW C.cW) := cell_of_block ZcW3.out 2 (by simp)
            have lcW3 := (Array.getElem?_eq_some_iff.1 ZcW3.out).1
            have ex0W3 : W3.cell? ⟨w.heap.size + 1, 0, none⟩ = some (.int .i64 x.day) := cell_of_block ZxW3.out 0 (by simp)
            have ex1W3 : W3.cell? ⟨w.heap.size + 1, 1, none⟩ = some (.int .i64 x.alo) := cell_of_block ZxW3.out 1 (by simp)
            have ex2W3 : W3.cell? ⟨w.heap.size + 1, 2, none⟩ = some (.int .i64 x.ahi) := cell_of_block ZxW3.out 2 (by simp)
            have ex3W3 : W3.cell? ⟨w.heap.size + 1, 3, none⟩ = some (.int .i64 x.wlo) := cell_of_block ZxW3.out 3 (by simp)
            have ex4W3 : W3.cell? ⟨w.heap.size + 1, 4, none⟩ = some (.int .i64 x.whi) := cell_of_block ZxW3.out 4 (by simp)
            have lxW3 := (Array.getElem?_eq_some_iff.1 ZxW3.out).1
            have em0W3 : W3.cell? ⟨w.heap.size + 1 + 1, 0, none⟩ = some (.int .i64 m.day) := cell_of_block ZmW3.out 0 (by simp)
            have em1W3 : W3.cell? ⟨w.heap.size + 1 + 1, 1, none⟩ = some (.int .i64 m.vlo) := cell_of_block ZmW3.out 1 (by simp)
            have em2W3 : W3.cell? ⟨w.heap.size + 1 + 1, 2, none⟩ = some (.int .i64 m.vhi) := cell_of_block ZmW3.out 2 (by simp)
            have em3W3 : W3.cell? ⟨w.heap.size + 1 + 1, 3, none⟩ = some (.int .i64 m.slo) := cell_of_block ZmW3.out 3 (by simp)
            have em4W3 : W3.cell? ⟨w.heap.size + 1 + 1, 4, none⟩ = some (.int .i64 m.shi) := cell_of_block ZmW3.out 4 (by simp)
            have lmW3 := (Array.getElem?_eq_some_iff.1 ZmW3.out).1
            go_wp2_with fail
            refine (Calls.grown (PR'.out _ (S3.out))).mono ?_
            rintro e w1 ⟨rfl, z5, rfl⟩
            go_upto_region 11 with (fail)
            obtain ⟨W4, hW4⟩ : ∃ W4, (((gw W3 z5)).alloc (.cells #[.int .i64 u.alo, .int .i64 u.ahi] 26)).alloc (.cells #[.int .i64 u.wlo, .int .i64 u.whi] 26) = W4 := ⟨_, rfl⟩
            have hbW4 : Below W3.heap.size W3 W4 := by rw [← hW4]; exact ((below_gw W3 z5).alloc (by simp [gw_size]) _).alloc (by simp [gw_size] <;> omega) _
            have ZcW4 := Lib.hid ((hbW4.block _ (Array.getElem?_eq_some_iff.1 ZcW3.out).1).trans ZcW3.out)
            have ZxW4 := Lib.hid ((hbW4.block _ (Array.getElem?_eq_some_iff.1 ZxW3.out).1).trans ZxW3.out)
            have ZmW4 := Lib.hid ((hbW4.block _ (Array.getElem?_eq_some_iff.1 ZmW3.out).1).trans ZmW3.out)
            have ZvW4 := Lib.hid ((hbW4.block _ (Array.getElem?_eq_some_iff.1 ZvW3.out).1).trans ZvW3.out)
            have ZyW4 := Lib.hid ((hbW4.block _ (Array.getElem?_eq_some_iff.1 ZyW3.out).1).trans ZyW3.out)
            have zgW4 : W4.heap[W3.heap.size + z5.bs.size]? = some (.cells #[.int .i64 u.alo, .int .i64 u.ahi] 26 (0, 0)) := by rw [← hW4]; exact alloc_keep (alloc_at (by simp [gw_size]))
            have ZgW4 := Lib.hid zgW4; clear zgW4
            have zhW4 : W4.heap[W3.heap.size + z5.bs.size + 1]? = some (.cells #[.int .i64 u.wlo, .int .i64 u.whi] 26 (0, 0)) := by rw [← hW4]; exact alloc_at (by simp [gw_size] <;> omega)
            have ZhW4 := Lib.hid zhW4; clear zhW4
            have HBW4 := Lib.hid (thru hbW4 HBW3.out)
            have SBW4 := Lib.hid hbW4; clear hbW4
            have HWW4 := Lib.hid hW4; clear hW4
            rw [HWW4.out]
            clear ec0W3 ec1W3 ec2W3 ex0W3 ex1W3 ex2W3 ex3W3 ex4W3 em0W3 em1W3 em2W3 em3W3 em4W3
            have S4 := Lib.hid (S3.out.trans (SBW4.out.mono S3.out.size))
            have ec0W4 : W4.cell? ⟨w.heap.size, 0, none⟩ = some (.int .i64 C.days) := cell_of_block ZcW4.out 0 (by simp)
            have ec1W4 : W4.cell? ⟨w.heap.size, 1, none⟩ = some (.slice C.aA C.nA C.cA) := cell_of_block ZcW4.out 1 (by simp)
            have ec2W4 : W4.cell? ⟨w.heap.size, 2, none⟩ = some (.slice C.aW C.nW C.cW) := cell_of_block ZcW4.out 2 (by simp)
            have lcW4 := (Array.getElem?_eq_some_iff.1 ZcW4.out).1
            have ex0W4 : W4.cell? ⟨w.heap.size + 1, 0, none⟩ = some (.int .i64 x.day) := cell_of_block ZxW4.out 0 (by simp)
            have ex1W4 : W4.cell? ⟨w.heap.size + 1, 1, none⟩ = some (.int .i64 x.alo) := cell_of_block ZxW4.out 1 (by simp)
            have ex2W4 : W4.cell? ⟨w.heap.size + 1, 2, none⟩ = some (.int .i64 x.ahi) := cell_of_block ZxW4.out 2 (by simp)
            have ex3W4 : W4.cell? ⟨w.heap.size + 1, 3, none⟩ = some (.int .i64 x.wlo) := cell_of_block ZxW4.out 3 (by simp)
            have ex4W4 : W4.cell? ⟨w.heap.size + 1, 4, none⟩ = some (.int .i64 x.whi) := cell_of_block ZxW4.out 4 (by simp)
            have lxW4 := (Array.getElem?_eq_some_iff.1 ZxW4.out).1
            have em0W4 : W4.cell? ⟨w.heap.size + 1 + 1, 0, none⟩ = some (.int .i64 m.day) := cell_of_block ZmW4.out 0 (by simp)
            have em1W4 : W4.cell? ⟨w.heap.size + 1 + 1, 1, none⟩ = some (.int .i64 m.vlo) := cell_of_block ZmW4.out 1 (by simp)
            have em2W4 : W4.cell? ⟨w.heap.size + 1 + 1, 2, none⟩ = some (.int .i64 m.vhi) := cell_of_block ZmW4.out 2 (by simp)
            have em3W4 : W4.cell? ⟨w.heap.size + 1 + 1, 3, none⟩ = some (.int .i64 m.slo) := cell_of_block ZmW4.out 3 (by simp)
            have em4W4 : W4.cell? ⟨w.heap.size + 1 + 1, 4, none⟩ = some (.int .i64 m.shi) := cell_of_block ZmW4.out 4 (by simp)
            have lmW4 := (Array.getElem?_eq_some_iff.1 ZmW4.out).1
            have ev0W4 : W4.cell? ⟨W1.heap.size + z3.bs.size, 0, none⟩ = some (.int .i64 0) := cell_of_block ZvW4.out 0 (by simp)
            have ev1W4 : W4.cell? ⟨W1.heap.size + z3.bs.size, 1, none⟩ = some (.int .i64 0) := cell_of_block ZvW4.out 1 (by simp)
            have ev2W4 : W4.cell? ⟨W1.heap.size + z3.bs.size, 2, none⟩ = some (.int .i64 0) := cell_of_block ZvW4.out 2 (by simp)
            have ev3W4 : W4.cell? ⟨W1.heap.size + z3.bs.size, 3, none⟩ = some (.int .i64 0) := cell_of_block ZvW4.out 3 (by simp)
            have ev4W4 : W4.cell? ⟨W1.heap.size + z3.bs.size, 4, none⟩ = some (.int .i64 0) := cell_of_block ZvW4.out 4 (by simp)
            have lvW4 := (Array.getElem?_eq_some_iff.1 ZvW4.out).1
            have ey0W4 : W4.cell? ⟨W2.heap.size + z4.bs.size, 0, none⟩ = some (.int .i64 y.day) := cell_of_block ZyW4.out 0 (by simp)
            have ey1W4 : W4.cell? ⟨W2.heap.size + z4.bs.size, 1, none⟩ = some (.int .i64 y.alo) := cell_of_block ZyW4.out 1 (by simp)
            have ey2W4 : W4.cell? ⟨W2.heap.size + z4.bs.size, 2, none⟩ = some (.int .i64 y.ahi) := cell_of_block ZyW4.out 2 (by simp)
            have ey3W4 : W4.cell? ⟨W2.heap.size + z4.bs.size, 3, none⟩ = some (.int .i64 y.wlo) := cell_of_block ZyW4.out 3 (by simp)
            have ey4W4 : W4.cell? ⟨W2.heap.size + z4.bs.size, 4, none⟩ = some (.int .i64 y.whi) := cell_of_block ZyW4.out 4 (by simp)
            have lyW4 := (Array.getElem?_eq_some_iff.1 ZyW4.out).1
            have eg0W4 : W4.cell? ⟨W3.heap.size + z5.bs.size, 0, none⟩ = some (.int .i64 u.alo) := cell_of_block ZgW4.out 0 (by simp)
            have eg1W4 : W4.cell? ⟨W3.heap.size + z5.bs.size, 1, none⟩ = some (.int .i64 u.ahi) := cell_of_block ZgW4.out 1 (by simp)
            have lgW4 := (Array.getElem?_eq_some_iff.1 ZgW4.out).1
            have eh0W4 : W4.cell? ⟨W3.heap.size + z5.bs.size + 1, 0, none⟩ = some (.int .i64 u.wlo) := cell_of_block ZhW4.out 0 (by simp)
            have eh1W4 : W4.cell? ⟨W3.heap.size + z5.bs.size + 1, 1, none⟩ = some (.int .i64 u.whi) := cell_of_block ZhW4.out 1 (by simp)
            have lhW4 := (Array.getElem?_eq_some_iff.1 ZhW4.out).1
            go_upto_region 18 with (fail)
            obtain ⟨W5, hW5⟩ : ∃ W5, ((W4)).alloc (.cells #[.int .i64 m.day, .int .i64 (maxZ 0 (m.vlo - kk)), .int .i64 (minZ 2147483648 (m.vhi + kk)), .int .i64 m.slo, .int .i64 m.shi] 44) = W5 := ⟨_, rfl⟩
            have hbW5 : Below W4.heap.size W4 W5 := by rw [← hW5]; exact (Below.refl _ W4).alloc (by simp [gw_size]) _
            have ZcW5 := Lib.hid ((hbW5.block _ (Array.getElem?_eq_some_iff.1 ZcW4.out).1).trans ZcW4.out)
            have ZxW5 := Lib.hid ((hbW5.block _ (Array.getElem?_eq_some_iff.1 ZxW4.out).1).trans ZxW4.out)
            have ZmW5 := Lib.hid ((hbW5.block _ (Array.getElem?_eq_some_iff.1 ZmW4.out).1).trans ZmW4.out)
            have ZvW5 := Lib.hid ((hbW5.block _ (Array.getElem?_eq_some_iff.1 ZvW4.out).1).trans ZvW4.out)
            have ZyW5 := Lib.hid ((hbW5.block _ (Array.getElem?_eq_some_iff.1 ZyW4.out).1).trans ZyW4.out)
            have ZgW5 := Lib.hid ((hbW5.block _ (Array.getElem?_eq_some_iff.1 ZgW4.out).1).trans ZgW4.out)
            have ZhW5 := Lib.hid ((hbW5.block _ (Array.getElem?_eq_some_iff.1 ZhW4.out).1).trans ZhW4.out)
            have zoW5 : W5.heap[W4.heap.size]? = some (.cells #[.int .i64 m.day, .int .i64 (maxZ 0 (m.vlo - kk)), .int .i64 (minZ 2147483648 (m.vhi + kk)), .int .i64 m.slo, .int .i64 m.shi] 44 (0, 0)) := by rw [← hW5]; exact alloc_at (by simp [gw_size])
            have ZoW5 := Lib.hid zoW5; clear zoW5
            have HBW5 := Lib.hid (thru hbW5 HBW4.out)
            have SBW5 := Lib.hid hbW5; clear hbW5
            have HWW5 := Lib.hid hW5; clear hW5
            rw [HWW5.out]
            clear ec0W4 ec1W4 ec2W4 ex0W4 ex1W4 ex2W4 ex3W4 ex4W4 em0W4 em1W4 em2W4 em3W4 em4W4 ev0W4 ev1W4 ev2W4 ev3W4 ev4W4 ey0W4 ey1W4 ey2W4 ey3W4 ey4W4 eg0W4 eg1W4 eh0W4 eh1W4 r0 r1 r2 r3 r4 r5 q0 q1 q2 q3 q4 q5 bm11 bm12 bm21 bm22
            have S5 := Lib.hid (S4.out.trans (SBW5.out.mono S4.out.size))
            have ec0W5 : W5.cell? ⟨w.heap.size, 0, none⟩ = some (.int .i64 C.days) := cell_of_block ZcW5.out 0 (by simp)
            have ec1W5 : W5.cell? ⟨w.heap.size, 1, none⟩ = some (.slice C.aA C.nA C.cA) := cell_of_block ZcW5.out 1 (by simp)
            have ec2W5 : W5.cell? ⟨w.heap.size, 2, none⟩ = some (.slice C.aW C.nW C.cW) := cell_of_block ZcW5.out 2 (by simp)
            have lcW5 := (Array.getElem?_eq_some_iff.1 ZcW5.out).1
            have ex0W5 : W5.cell? ⟨w.heap.size + 1, 0, none⟩ = some (.int .i64 x.day) := cell_of_block ZxW5.out 0 (by simp)
            have ex1W5 : W5.cell? ⟨w.heap.size + 1, 1, none⟩ = some (.int .i64 x.alo) := cell_of_block ZxW5.out 1 (by simp)
            have ex2W5 : W5.cell? ⟨w.heap.size + 1, 2, none⟩ = some (.int .i64 x.ahi) := cell_of_block ZxW5.out 2 (by simp)
            have ex3W5 : W5.cell? ⟨w.heap.size + 1, 3, none⟩ = some (.int .i64 x.wlo) := cell_of_block ZxW5.out 3 (by simp)
            have ex4W5 : W5.cell? ⟨w.heap.size + 1, 4, none⟩ = some (.int .i64 x.whi) := cell_of_block ZxW5.out 4 (by simp)
            have lxW5 := (Array.getElem?_eq_some_iff.1 ZxW5.out).1
            have eo0W5 : W5.cell? ⟨W4.heap.size, 0, none⟩ = some (.int .i64 m.day) := cell_of_block ZoW5.out 0 (by simp)
            have eo1W5 : W5.cell? ⟨W4.heap.size, 1, none⟩ = some (.int .i64 (maxZ 0 (m.vlo - kk))) := cell_of_block ZoW5.out 1 (by simp)
            have eo2W5 : W5.cell? ⟨W4.heap.size, 2, none⟩ = some (.int .i64 (minZ 2147483648 (m.vhi + kk))) := cell_of_block ZoW5.out 2 (by simp)
            have eo3W5 : W5.cell? ⟨W4.heap.size, 3, none⟩ = some (.int .i64 m.slo) := cell_of_block ZoW5.out 3 (by simp)
            have eo4W5 : W5.cell? ⟨W4.heap.size, 4, none⟩ = some (.int .i64 m.shi) := cell_of_block ZoW5.out 4 (by simp)
            have loW5 := (Array.getElem?_eq_some_iff.1 ZoW5.out).1
            go_wp2_with fail
            refine (Calls.grown (MO'.out _ (S5.out))).mono ?_
            rintro e w1 ⟨rfl, z6, rfl⟩
            go_wp2_with fail
            refine (Calls.gw_of (alive_any _)).mono ?_
            rintro e w1 ⟨rfl, z7, rfl⟩
            go_wp2_with fail
            go_ret
            exact ⟨rfl, HBW5.out.gw z7⟩
          · clear S3'
            go_wp2_with fail
            refine (Calls.gw_of (SH'.out _ (below_gw W1 z1))).mono ?_
            rintro e w1 ⟨rfl, z2, rfl⟩
            go_wp2_with fail
            refine (Calls.gw_of (ME'.out _ (below_gw W1 z2))).mono ?_
            rintro e w1 ⟨rfl, z3, rfl⟩
            go_upto_region 5 with (fail)
            obtain ⟨W2, hW2⟩ : ∃ W2, ((gw W1 z3)).alloc (.cells #[.int .i64 0, .int .i64 0, .int .i64 0, .int .i64 0, .int .i64 0] 28) = W2 := ⟨_, rfl⟩
            have hbW2 : Below W1.heap.size W1 W2 := by rw [← hW2]; exact (below_gw W1 z3).alloc (by simp [gw_size]) _
            have ZcW2 := Lib.hid ((hbW2.block _ (Array.getElem?_eq_some_iff.1 Zc0.out).1).trans Zc0.out)
            have ZxW2 := Lib.hid ((hbW2.block _ (Array.getElem?_eq_some_iff.1 Zc1.out).1).trans Zc1.out)
            have ZmW2 := Lib.hid ((hbW2.block _ (Array.getElem?_eq_some_iff.1 Zc2.out).1).trans Zc2.out)
            have zvW2 : W2.heap[W1.heap.size + z3.bs.size]? = some (.cells #[.int .i64 0, .int .i64 0, .int .i64 0, .int .i64 0, .int .i64 0] 28 (0, 0)) := by rw [← hW2]; exact alloc_at (by simp [gw_size])
            have ZvW2 := Lib.hid zvW2; clear zvW2
            have HBW2 := Lib.hid (thru hbW2 HBc.out)
            have SBW2 := Lib.hid hbW2; clear hbW2
            have HWW2 := Lib.hid hW2; clear hW2
            rw [HWW2.out]
            clear c00 c01 c02 c10 c11 c12 c13 c14 c20 c21 c22 c23 c24
            have S2 := Lib.hid SBW2.out
            have ec0W2 : W2.cell? ⟨w.heap.size, 0, none⟩ = some (.int .i64 C.days) := cell_of_block ZcW2.out 0 (by simp)
            have ec1W2 : W2.cell? ⟨w.heap.size, 1, none⟩ = some (.slice C.aA C.nA C.cA) := cell_of_block ZcW2.out 1 (by simp)
            have ec2W2 : W2.cell? ⟨w.heap.size, 2, none⟩ = some (.slice C.aW C.nW C.cW) := cell_of_block ZcW2.out 2 (by simp)
            have lcW2 := (Array.getElem?_eq_some_iff.1 ZcW2.out).1
            have ex0W2 : W2.cell? ⟨w.heap.size + 1, 0, none⟩ = some (.int .i64 x.day) := cell_of_block ZxW2.out 0 (by simp)
            have ex1W2 : W2.cell? ⟨w.heap.size + 1, 1, none⟩ = some (.int .i64 x.alo) := cell_of_block ZxW2.out 1 (by simp)
            have ex2W2 : W2.cell? ⟨w.heap.size + 1, 2, none⟩ = some (.int .i64 x.ahi) := cell_of_block ZxW2.out 2 (by simp)
            have ex3W2 : W2.cell? ⟨w.heap.size + 1, 3, none⟩ = some (.int .i64 x.wlo) := cell_of_block ZxW2.out 3 (by simp)
            have ex4W2 : W2.cell? ⟨w.heap.size + 1, 4, none⟩ = some (.int .i64 x.whi) := cell_of_block ZxW2.out 4 (by simp)
            have lxW2 := (Array.getElem?_eq_some_iff.1 ZxW2.out).1
            have em0W2 : W2.cell? ⟨w.heap.size + 1 + 1, 0, none⟩ = some (.int .i64 m.day) := cell_of_block ZmW2.out 0 (by simp)
            have em1W2 : W2.cell? ⟨w.heap.size + 1 + 1, 1, none⟩ = some (.int .i64 m.vlo) := cell_of_block ZmW2.out 1 (by simp)
            have em2W2 : W2.cell? ⟨w.heap.size + 1 + 1, 2, none⟩ = some (.int .i64 m.vhi) := cell_of_block ZmW2.out 2 (by simp)
            have em3W2 : W2.cell? ⟨w.heap.size + 1 + 1, 3, none⟩ = some (.int .i64 m.slo) := cell_of_block ZmW2.out 3 (by simp)
            have em4W2 : W2.cell? ⟨w.heap.size + 1 + 1, 4, none⟩ = some (.int .i64 m.shi) := cell_of_block ZmW2.out 4 (by simp)
            have lmW2 := (Array.getElem?_eq_some_iff.1 ZmW2.out).1
            go_wp2_with fail
            refine (Calls.grown (AT'.out _ (S2.out))).mono ?_
            rintro e w1 ⟨rfl, z4, rfl⟩
            go_upto_region 6 with (fail)
            obtain ⟨W3, hW3⟩ : ∃ W3, ((gw W2 z4)).alloc (.cells #[.int .i64 y.day, .int .i64 y.alo, .int .i64 y.ahi, .int .i64 y.wlo, .int .i64 y.whi] 28) = W3 := ⟨_, rfl⟩
            have hbW3 : Below W2.heap.size W2 W3 := by rw [← hW3]; exact (below_gw W2 z4).alloc (by simp [gw_size]) _
            have ZcW3 := Lib.hid ((hbW3.block _ (Array.getElem?_eq_some_iff.1 ZcW2.out).1).trans ZcW2.out)
            have ZxW3 := Lib.hid ((hbW3.block _ (Array.getElem?_eq_some_iff.1 ZxW2.out).1).trans ZxW2.out)
            have ZmW3 := Lib.hid ((hbW3.block _ (Array.getElem?_eq_some_iff.1 ZmW2.out).1).trans ZmW2.out)
            have ZvW3 := Lib.hid ((hbW3.block _ (Array.getElem?_eq_some_iff.1 ZvW2.out).1).trans ZvW2.out)
            have zyW3 : W3.heap[W2.heap.size + z4.bs.size]? = some (.cells #[.int .i64 y.day, .int .i64 y.alo, .int .i64 y.ahi, .int .i64 y.wlo, .int .i64 y.whi] 28 (0, 0)) := by rw [← hW3]; exact alloc_at (by simp [gw_size])
            have ZyW3 := Lib.hid zyW3; clear zyW3
            have HBW3 := Lib.hid (thru hbW3 HBW2.out)
            have SBW3 := Lib.hid hbW3; clear hbW3
            have HWW3 := Lib.hid hW3; clear hW3
            rw [HWW3.out]
            clear ec0W2 ec1W2 ec2W2 ex0W2 ex1W2 ex2W2 ex3W2 ex4W2 em0W2 em1W2 em2W2 em3W2 em4W2
            have S3 := Lib.hid (S2.out.trans (SBW3.out.mono S2.out.size))
            have ec0W3 : W3.cell? ⟨w.heap.size, 0, none⟩ = some (.int .i64 C.days) := cell_of_block ZcW3.out 0 (by simp)
            have ec1W3 : W3.cell? ⟨w.heap.size, 1, none⟩ = some (.slice C.aA C.nA C.cA) := cell_of_block ZcW3.out 1 (by simp)
            have ec2W3 : W3.cell? ⟨w.heap.size, 2, none⟩ = some (.slice C.aW C.nW C.cW) := cell_of_block ZcW3.out 2 (by simp)
            have lcW3 := (Array.getElem?_eq_some_iff.1 ZcW3.out).1
            have ex0W3 : W3.cell? ⟨w.heap.size + 1, 0, none⟩ = some (.int .i64 x.day) := cell_of_block ZxW3.out 0 (by simp)
            have ex1W3 : W3.cell? ⟨w.heap.size + 1, 1, none⟩ = some (.int .i64 x.alo) := cell_of_block ZxW3.out 1 (by simp)
            have ex2W3 : W3.cell? ⟨w.heap.size + 1, 2, none⟩ = some (.int .i64 x.ahi) := cell_of_block ZxW3.out 2 (by simp)
            have ex3W3 : W3.cell? ⟨w.heap.size + 1, 3, none⟩ = some (.int .i64 x.wlo) := cell_of_block ZxW3.out 3 (by simp)
            have ex4W3 : W3.cell? ⟨w.heap.size + 1, 4, none⟩ = some (.int .i64 x.whi) := cell_of_block ZxW3.out 4 (by simp)
            have lxW3 := (Array.getElem?_eq_some_iff.1 ZxW3.out).1
            have em0W3 : W3.cell? ⟨w.heap.size + 1 + 1, 0, none⟩ = some (.int .i64 m.day) := cell_of_block ZmW3.out 0 (by simp)
            have em1W3 : W3.cell? ⟨w.heap.size + 1 + 1, 1, none⟩ = some (.int .i64 m.vlo) := cell_of_block ZmW3.out 1 (by simp)
            have em2W3 : W3.cell? ⟨w.heap.size + 1 + 1, 2, none⟩ = some (.int .i64 m.vhi) := cell_of_block ZmW3.out 2 (by simp)
            have em3W3 : W3.cell? ⟨w.heap.size + 1 + 1, 3, none⟩ = some (.int .i64 m.slo) := cell_of_block ZmW3.out 3 (by simp)
            have em4W3 : W3.cell? ⟨w.heap.size + 1 + 1, 4, none⟩ = some (.int .i64 m.shi) := cell_of_block ZmW3.out 4 (by simp)
            have lmW3 := (Array.getElem?_eq_some_iff.1 ZmW3.out).1
            go_wp2_with fail
            refine (Calls.grown (PR'.out _ (S3.out))).mono ?_
            rintro e w1 ⟨rfl, z5, rfl⟩
            go_upto_region 11 with (fail)
            obtain ⟨W4, hW4⟩ : ∃ W4, (((gw W3 z5)).alloc (.cells #[.int .i64 u.alo, .int .i64 u.ahi] 26)).alloc (.cells #[.int .i64 u.wlo, .int .i64 u.whi] 26) = W4 := ⟨_, rfl⟩
            have hbW4 : Below W3.heap.size W3 W4 := by rw [← hW4]; exact ((below_gw W3 z5).alloc (by simp [gw_size]) _).alloc (by simp [gw_size] <;> omega) _
            have ZcW4 := Lib.hid ((hbW4.block _ (Array.getElem?_eq_some_iff.1 ZcW3.out).1).trans ZcW3.out)
            have ZxW4 := Lib.hid ((hbW4.block _ (Array.getElem?_eq_some_iff.1 ZxW3.out).1).trans ZxW3.out)
            have ZmW4 := Lib.hid ((hbW4.block _ (Array.getElem?_eq_some_iff.1 ZmW3.out).1).trans ZmW3.out)
            have ZvW4 := Lib.hid ((hbW4.block _ (Array.getElem?_eq_some_iff.1 ZvW3.out).1).trans ZvW3.out)
            have ZyW4 := Lib.hid ((hbW4.block _ (Array.getElem?_eq_some_iff.1 ZyW3.out).1).trans ZyW3.out)
            have zgW4 : W4.heap[W3.heap.size + z5.bs.size]? = some (.cells #[.int .i64 u.alo, .int .i64 u.ahi] 26 (0, 0)) := by rw [← hW4]; exact alloc_keep (alloc_at (by simp [gw_size]))
            have ZgW4 := Lib.hid zgW4; clear zgW4
            have zhW4 : W4.heap[W3.heap.size + z5.bs.size + 1]? = some (.cells #[.int .i64 u.wlo, .int .i64 u.whi] 26 (0, 0)) := by rw [← hW4]; exact alloc_at (by simp [gw_size] <;> omega)
            have ZhW4 := Lib.hid zhW4; clear zhW4
            have HBW4 := Lib.hid (thru hbW4 HBW3.out)
            have SBW4 := Lib.hid hbW4; clear hbW4
            have HWW4 := Lib.hid hW4; clear hW4
            rw [HWW4.out]
            clear ec0W3 ec1W3 ec2W3 ex0W3 ex1W3 ex2W3 ex3W3 ex4W3 em0W3 em1W3 em2W3 em3W3 em4W3
            have S4 := Lib.hid (S3.out.trans (SBW4.out.mono S3.out.size))
            have ec0W4 : W4.cell? ⟨w.heap.size, 0, none⟩ = some (.int .i64 C.days) := cell_of_block ZcW4.out 0 (by simp)
            have ec1W4 : W4.cell? ⟨w.heap.size, 1, none⟩ = some (.slice C.aA C.nA C.cA) := cell_of_block ZcW4.out 1 (by simp)
            have ec2W4 : W4.cell? ⟨w.heap.size, 2, none⟩ = some (.slice C.aW C.nW C.cW) := cell_of_block ZcW4.out 2 (by simp)
            have lcW4 := (Array.getElem?_eq_some_iff.1 ZcW4.out).1
            have ex0W4 : W4.cell? ⟨w.heap.size + 1, 0, none⟩ = some (.int .i64 x.day) := cell_of_block ZxW4.out 0 (by simp)
            have ex1W4 : W4.cell? ⟨w.heap.size + 1, 1, none⟩ = some (.int .i64 x.alo) := cell_of_block ZxW4.out 1 (by simp)
            have ex2W4 : W4.cell? ⟨w.heap.size + 1, 2, none⟩ = some (.int .i64 x.ahi) := cell_of_block ZxW4.out 2 (by simp)
            have ex3W4 : W4.cell? ⟨w.heap.size + 1, 3, none⟩ = some (.int .i64 x.wlo) := cell_of_block ZxW4.out 3 (by simp)
            have ex4W4 : W4.cell? ⟨w.heap.size + 1, 4, none⟩ = some (.int .i64 x.whi) := cell_of_block ZxW4.out 4 (by simp)
            have lxW4 := (Array.getElem?_eq_some_iff.1 ZxW4.out).1
            have em0W4 : W4.cell? ⟨w.heap.size + 1 + 1, 0, none⟩ = some (.int .i64 m.day) := cell_of_block ZmW4.out 0 (by simp)
            have em1W4 : W4.cell? ⟨w.heap.size + 1 + 1, 1, none⟩ = some (.int .i64 m.vlo) := cell_of_block ZmW4.out 1 (by simp)
            have em2W4 : W4.cell? ⟨w.heap.size + 1 + 1, 2, none⟩ = some (.int .i64 m.vhi) := cell_of_block ZmW4.out 2 (by simp)
            have em3W4 : W4.cell? ⟨w.heap.size + 1 + 1, 3, none⟩ = some (.int .i64 m.slo) := cell_of_block ZmW4.out 3 (by simp)
            have em4W4 : W4.cell? ⟨w.heap.size + 1 + 1, 4, none⟩ = some (.int .i64 m.shi) := cell_of_block ZmW4.out 4 (by simp)
            have lmW4 := (Array.getElem?_eq_some_iff.1 ZmW4.out).1
            have ev0W4 : W4.cell? ⟨W1.heap.size + z3.bs.size, 0, none⟩ = some (.int .i64 0) := cell_of_block ZvW4.out 0 (by simp)
            have ev1W4 : W4.cell? ⟨W1.heap.size + z3.bs.size, 1, none⟩ = some (.int .i64 0) := cell_of_block ZvW4.out 1 (by simp)
            have ev2W4 : W4.cell? ⟨W1.heap.size + z3.bs.size, 2, none⟩ = some (.int .i64 0) := cell_of_block ZvW4.out 2 (by simp)
            have ev3W4 : W4.cell? ⟨W1.heap.size + z3.bs.size, 3, none⟩ = some (.int .i64 0) := cell_of_block ZvW4.out 3 (by simp)
            have ev4W4 : W4.cell? ⟨W1.heap.size + z3.bs.size, 4, none⟩ = some (.int .i64 0) := cell_of_block ZvW4.out 4 (by simp)
            have lvW4 := (Array.getElem?_eq_some_iff.1 ZvW4.out).1
            have ey0W4 : W4.cell? ⟨W2.heap.size + z4.bs.size, 0, none⟩ = some (.int .i64 y.day) := cell_of_block ZyW4.out 0 (by simp)
            have ey1W4 : W4.cell? ⟨W2.heap.size + z4.bs.size, 1, none⟩ = some (.int .i64 y.alo) := cell_of_block ZyW4.out 1 (by simp)
            have ey2W4 : W4.cell? ⟨W2.heap.size + z4.bs.size, 2, none⟩ = some (.int .i64 y.ahi) := cell_of_block ZyW4.out 2 (by simp)
            have ey3W4 : W4.cell? ⟨W2.heap.size + z4.bs.size, 3, none⟩ = some (.int .i64 y.wlo) := cell_of_block ZyW4.out 3 (by simp)
            have ey4W4 : W4.cell? ⟨W2.heap.size + z4.bs.size, 4, none⟩ = some (.int .i64 y.whi) := cell_of_block ZyW4.out 4 (by simp)
            have lyW4 := (Array.getElem?_eq_some_iff.1 ZyW4.out).1
            have eg0W4 : W4.cell? ⟨W3.heap.size + z5.bs.size, 0, none⟩ = some (.int .i64 u.alo) := cell_of_block ZgW4.out 0 (by simp)
            have eg1W4 : W4.cell? ⟨W3.heap.size + z5.bs.size, 1, none⟩ = some (.int .i64 u.ahi) := cell_of_block ZgW4.out 1 (by simp)
            have lgW4 := (Array.getElem?_eq_some_iff.1 ZgW4.out).1
            have eh0W4 : W4.cell? ⟨W3.heap.size + z5.bs.size + 1, 0, none⟩ = some (.int .i64 u.wlo) := cell_of_block ZhW4.out 0 (by simp)
            have eh1W4 : W4.cell? ⟨W3.heap.size + z5.bs.size + 1, 1, none⟩ = some (.int .i64 u.whi) := cell_of_block ZhW4.out 1 (by simp)
            have lhW4 := (Array.getElem?_eq_some_iff.1 ZhW4.out).1
            go_upto_region 18 with (fail)
            obtain ⟨W5, hW5⟩ : ∃ W5, ((W4)).alloc (.cells #[.int .i64 m.day, .int .i64 (maxZ 0 (m.vlo - kk)), .int .i64 (minZ 2147483648 (m.vhi + kk)), .int .i64 m.slo, .int .i64 m.shi] 44) = W5 := ⟨_, rfl⟩
            have hbW5 : Below W4.heap.size W4 W5 := by rw [← hW5]; exact (Below.refl _ W4).alloc (by simp [gw_size]) _
            have ZcW5 := Lib.hid ((hbW5.block _ (Array.getElem?_eq_some_iff.1 ZcW4.out).1).trans ZcW4.out)
            have ZxW5 := Lib.hid ((hbW5.block _ (Array.getElem?_eq_some_iff.1 ZxW4.out).1).trans ZxW4.out)
            have ZmW5 := Lib.hid ((hbW5.block _ (Array.getElem?_eq_some_iff.1 ZmW4.out).1).trans ZmW4.out)
            have ZvW5 := Lib.hid ((hbW5.block _ (Array.getElem?_eq_some_iff.1 ZvW4.out).1).trans ZvW4.out)
            have ZyW5 := Lib.hid ((hbW5.block _ (Array.getElem?_eq_some_iff.1 ZyW4.out).1).trans ZyW4.out)
            have ZgW5 := Lib.hid ((hbW5.block _ (Array.getElem?_eq_some_iff.1 ZgW4.out).1).trans ZgW4.out)
            have ZhW5 := Lib.hid ((hbW5.block _ (Array.getElem?_eq_some_iff.1 ZhW4.out).1).trans ZhW4.out)
            have zoW5 : W5.heap[W4.heap.size]? = some (.cells #[.int .i64 m.day, .int .i64 (maxZ 0 (m.vlo - kk)), .int .i64 (minZ 2147483648 (m.vhi + kk)), .int .i64 m.slo, .int .i64 m.shi] 44 (0, 0)) := by rw [← hW5]; exact alloc_at (by simp [gw_size])
            have ZoW5 := Lib.hid zoW5; clear zoW5
            have HBW5 := Lib.hid (thru hbW5 HBW4.out)
            have SBW5 := Lib.hid hbW5; clear hbW5
            have HWW5 := Lib.hid hW5; clear hW5
            rw [HWW5.out]
            clear ec0W4 ec1W4 ec2W4 ex0W4 ex1W4 ex2W4 ex3W4 ex4W4 em0W4 em1W4 em2W4 em3W4 em4W4 ev0W4 ev1W4 ev2W4 ev3W4 ev4W4 ey0W4 ey1W4 ey2W4 ey3W4 ey4W4 eg0W4 eg1W4 eh0W4 eh1W4 r0 r1 r2 r3 r4 r5 q0 q1 q2 q3 q4 q5 bm11 bm12 bm21 bm22
            have S5 := Lib.hid (S4.out.trans (SBW5.out.mono S4.out.size))
            have ec0W5 : W5.cell? ⟨w.heap.size, 0, none⟩ = some (.int .i64 C.days) := cell_of_block ZcW5.out 0 (by simp)
            have ec1W5 : W5.cell? ⟨w.heap.size, 1, none⟩ = some (.slice C.aA C.nA C.cA) := cell_of_block ZcW5.out 1 (by simp)
            have ec2W5 : W5.cell? ⟨w.heap.size, 2, none⟩ = some (.slice C.aW C.nW C.cW) := cell_of_block ZcW5.out 2 (by simp)
            have lcW5 := (Array.getElem?_eq_some_iff.1 ZcW5.out).1
            have ex0W5 : W5.cell? ⟨w.heap.size + 1, 0, none⟩ = some (.int .i64 x.day) := cell_of_block ZxW5.out 0 (by simp)
            have ex1W5 : W5.cell? ⟨w.heap.size + 1, 1, none⟩ = some (.int .i64 x.alo) := cell_of_block ZxW5.out 1 (by simp)
            have ex2W5 : W5.cell? ⟨w.heap.size + 1, 2, none⟩ = some (.int .i64 x.ahi) := cell_of_block ZxW5.out 2 (by simp)
            have ex3W5 : W5.cell? ⟨w.heap.size + 1, 3, none⟩ = some (.int .i64 x.wlo) := cell_of_block ZxW5.out 3 (by simp)
            have ex4W5 : W5.cell? ⟨w.heap.size + 1, 4, none⟩ = some (.int .i64 x.whi) := cell_of_block ZxW5.out 4 (by simp)
            have lxW5 := (Array.getElem?_eq_some_iff.1 ZxW5.out).1
            have eo0W5 : W5.cell? ⟨W4.heap.size, 0, none⟩ = some (.int .i64 m.day) := cell_of_block ZoW5.out 0 (by simp)
            have eo1W5 : W5.cell? ⟨W4.heap.size, 1, none⟩ = some (.int .i64 (maxZ 0 (m.vlo - kk))) := cell_of_block ZoW5.out 1 (by simp)
            have eo2W5 : W5.cell? ⟨W4.heap.size, 2, none⟩ = some (.int .i64 (minZ 2147483648 (m.vhi + kk))) := cell_of_block ZoW5.out 2 (by simp)
            have eo3W5 : W5.cell? ⟨W4.heap.size, 3, none⟩ = some (.int .i64 m.slo) := cell_of_block ZoW5.out 3 (by simp)
            have eo4W5 : W5.cell? ⟨W4.heap.size, 4, none⟩ = some (.int .i64 m.shi) := cell_of_block ZoW5.out 4 (by simp)
            have loW5 := (Array.getElem?_eq_some_iff.1 ZoW5.out).1
            go_wp2_with fail
            refine (Calls.grown (MO'.out _ (S5.out))).mono ?_
            rintro e w1 ⟨rfl, z6, rfl⟩
            go_wp2_with fail
            refine (Calls.gw_of (alive_any _)).mono ?_
            rintro e w1 ⟨rfl, z7, rfl⟩
            go_wp2_with fail
            go_ret
            exact ⟨rfl, HBW5.out.gw z7⟩
        · have n4 : (n == 3) = false := by simpa using n3
          clear S3
          go_wp2_with fail
          refine (Calls.gw_of (SH'.out _ (below_gw W1 z1))).mono ?_
          rintro e w1 ⟨rfl, z2, rfl⟩
          go_wp2_with fail
          refine (Calls.gw_of (ME'.out _ (below_gw W1 z2))).mono ?_
          rintro e w1 ⟨rfl, z3, rfl⟩
          go_upto_region 5 with (fail)
          obtain ⟨W2, hW2⟩ : ∃ W2, ((gw W1 z3)).alloc (.cells #[.int .i64 0, .int .i64 0, .int .i64 0, .int .i64 0, .int .i64 0] 28) = W2 := ⟨_, rfl⟩
          have hbW2 : Below W1.heap.size W1 W2 := by rw [← hW2]; exact (below_gw W1 z3).alloc (by simp [gw_size]) _
          have ZcW2 := Lib.hid ((hbW2.block _ (Array.getElem?_eq_some_iff.1 Zc0.out).1).trans Zc0.out)
          have ZxW2 := Lib.hid ((hbW2.block _ (Array.getElem?_eq_some_iff.1 Zc1.out).1).trans Zc1.out)
          have ZmW2 := Lib.hid ((hbW2.block _ (Array.getElem?_eq_some_iff.1 Zc2.out).1).trans Zc2.out)
          have zvW2 : W2.heap[W1.heap.size + z3.bs.size]? = some (.cells #[.int .i64 0, .int .i64 0, .int .i64 0, .int .i64 0, .int .i64 0] 28 (0, 0)) := by rw [← hW2]; exact alloc_at (by simp [gw_size])
          have ZvW2 := Lib.hid zvW2; clear zvW2
          have HBW2 := Lib.hid (thru hbW2 HBc.out)
          have SBW2 := Lib.hid hbW2; clear hbW2
          have HWW2 := Lib.hid hW2; clear hW2
          rw [HWW2.out]
          clear c00 c01 c02 c10 c11 c12 c13 c14 c20 c21 c22 c23 c24
          have S2 := Lib.hid SBW2.out
          have ec0W2 : W2.cell? ⟨w.heap.size, 0, none⟩ = some (.int .i64 C.days) := cell_of_block ZcW2.out 0 (by simp)
          have ec1W2 : W2.cell? ⟨w.heap.size, 1, none⟩ = some (.slice C.aA C.nA C.cA) := cell_of_block ZcW2.out 1 (by simp)
          have ec2W2 : W2.cell? ⟨w.heap.size, 2, none⟩ = some (.slice C.aW C.nW C.cW) := cell_of_block ZcW2.out 2 (by simp)
          have lcW2 := (Array.getElem?_eq_some_iff.1 ZcW2.out).1
          have ex0W2 : W2.cell? ⟨w.heap.size + 1, 0, none⟩ = some (.int .i64 x.day) := cell_of_block ZxW2.out 0 (by simp)
          have ex1W2 : W2.cell? ⟨w.heap.size + 1, 1, none⟩ = some (.int .i64 x.alo) := cell_of_block ZxW2.out 1 (by simp)
          have ex2W2 : W2.cell? ⟨w.heap.size + 1, 2, none⟩ = some (.int .i64 x.ahi) := cell_of_block ZxW2.out 2 (by simp)
          have ex3W2 : W2.cell? ⟨w.heap.size + 1, 3, none⟩ = some (.int .i64 x.wlo) := cell_of_block ZxW2.out 3 (by simp)
          have ex4W2 : W2.cell? ⟨w.heap.size + 1, 4, none⟩ = some (.int .i64 x.whi) := cell_of_block ZxW2.out 4 (by simp)
          have lxW2 := (Array.getElem?_eq_some_iff.1 ZxW2.out).1
          have em0W2 : W2.cell? ⟨w.heap.size + 1 + 1, 0, none⟩ = some (.int .i64 m.day) := cell_of_block ZmW2.out 0 (by simp)
          have em1W2 : W2.cell? ⟨w.heap.size + 1 + 1, 1, none⟩ = some (.int .i64 m.vlo) := cell_of_block ZmW2.out 1 (by simp)
          have em2W2 : W2.cell? ⟨w.heap.size + 1 + 1, 2, none⟩ = some (.int .i64 m.vhi) := cell_of_block ZmW2.out 2 (by simp)
          have em3W2 : W2.cell? ⟨w.heap.size + 1 + 1, 3, none⟩ = some (.int .i64 m.slo) := cell_of_block ZmW2.out 3 (by simp)
          have em4W2 : W2.cell? ⟨w.heap.size + 1 + 1, 4, none⟩ = some (.int .i64 m.shi) := cell_of_block ZmW2.out 4 (by simp)
          have lmW2 := (Array.getElem?_eq_some_iff.1 ZmW2.out).1
          go_wp2_with fail
          refine (Calls.grown (AT'.out _ (S2.out))).mono ?_
          rintro e w1 ⟨rfl, z4, rfl⟩
          go_upto_region 6 with (fail)
          obtain ⟨W3, hW3⟩ : ∃ W3, ((gw W2 z4)).alloc (.cells #[.int .i64 y.day, .int .i64 y.alo, .int .i64 y.ahi, .int .i64 y.wlo, .int .i64 y.whi] 28) = W3 := ⟨_, rfl⟩
          have hbW3 : Below W2.heap.size W2 W3 := by rw [← hW3]; exact (below_gw W2 z4).alloc (by simp [gw_size]) _
          have ZcW3 := Lib.hid ((hbW3.block _ (Array.getElem?_eq_some_iff.1 ZcW2.out).1).trans ZcW2.out)
          have ZxW3 := Lib.hid ((hbW3.block _ (Array.getElem?_eq_some_iff.1 ZxW2.out).1).trans ZxW2.out)
          have ZmW3 := Lib.hid ((hbW3.block _ (Array.getElem?_eq_some_iff.1 ZmW2.out).1).trans ZmW2.out)
          have ZvW3 := Lib.hid ((hbW3.block _ (Array.getElem?_eq_some_iff.1 ZvW2.out).1).trans ZvW2.out)
          have zyW3 : W3.heap[W2.heap.size + z4.bs.size]? = some (.cells #[.int .i64 y.day, .int .i64 y.alo, .int .i64 y.ahi, .int .i64 y.wlo, .int .i64 y.whi] 28 (0, 0)) := by rw [← hW3]; exact alloc_at (by simp [gw_size])
          have ZyW3 := Lib.hid zyW3; clear zyW3
          have HBW3 := Lib.hid (thru hbW3 HBW2.out)
          have SBW3 := Lib.hid hbW3; clear hbW3
          have HWW3 := Lib.hid hW3; clear hW3
          rw [HWW3.out]
          clear ec0W2 ec1W2 ec2W2 ex0W2 ex1W2 ex2W2 ex3W2 ex4W2 em0W2 em1W2 em2W2 em3W2 em4W2
          have S3 := Lib.hid (S2.out.trans (SBW3.out.mono S2.out.size))
          have ec0W3 : W3.cell? ⟨w.heap.size, 0, none⟩ = some (.int .i64 C.days) := cell_of_block ZcW3.out 0 (by simp)
          have ec1W3 : W3.cell? ⟨w.heap.size, 1, none⟩ = some (.slice C.aA C.nA C.cA) := cell_of_block ZcW3.out 1 (by simp)
          have ec2W3 : W3.cell? ⟨w.heap.size, 2, none⟩ = some (.slice C.aW C.nW C.cW) := cell_of_block ZcW3.out 2 (by simp)
          have lcW3 := (Array.getElem?_eq_some_iff.1 ZcW3.out).1
          have ex0W3 : W3.cell? ⟨w.heap.size + 1, 0, none⟩ = some (.int .i64 x.day) := cell_of_block ZxW3.out 0 (by simp)
          have ex1W3 : W3.cell? ⟨w.heap.size + 1, 1, none⟩ = some (.int .i64 x.alo) := cell_of_block ZxW3.out 1 (by simp)
          have ex2W3 : W3.cell? ⟨w.heap.size + 1, 2, none⟩ = some (.int .i64 x.ahi) := cell_of_block ZxW3.out 2 (by simp)
          have ex3W3 : W3.cell? ⟨w.heap.size + 1, 3, none⟩ = some (.int .i64 x.wlo) := cell_of_block ZxW3.out 3 (by simp)
          have ex4W3 : W3.cell? ⟨w.heap.size + 1, 4, none⟩ = some (.int .i64 x.whi) := cell_of_block ZxW3.out 4 (by simp)
          have lxW3 := (Array.getElem?_eq_some_iff.1 ZxW3.out).1
          have em0W3 : W3.cell? ⟨w.heap.size + 1 + 1, 0, none⟩ = some (.int .i64 m.day) := cell_of_block ZmW3.out 0 (by simp)
          have em1W3 : W3.cell? ⟨w.heap.size + 1 + 1, 1, none⟩ = some (.int .i64 m.vlo) := cell_of_block ZmW3.out 1 (by simp)
          have em2W3 : W3.cell? ⟨w.heap.size + 1 + 1, 2, none⟩ = some (.int .i64 m.vhi) := cell_of_block ZmW3.out 2 (by simp)
          have em3W3 : W3.cell? ⟨w.heap.size + 1 + 1, 3, none⟩ = some (.int .i64 m.slo) := cell_of_block ZmW3.out 3 (by simp)
          have em4W3 : W3.cell? ⟨w.heap.size + 1 + 1, 4, none⟩ = some (.int .i64 m.shi) := cell_of_block ZmW3.out 4 (by simp)
          have lmW3 := (Array.getElem?_eq_some_iff.1 ZmW3.out).1
          go_wp2_with fail
          refine (Calls.grown (PR'.out _ (S3.out))).mono ?_
          rintro e w1 ⟨rfl, z5, rfl⟩
          go_upto_region 11 with (fail)
          obtain ⟨W4, hW4⟩ : ∃ W4, (((gw W3 z5)).alloc (.cells #[.int .i64 u.alo, .int .i64 u.ahi] 26)).alloc (.cells #[.int .i64 u.wlo, .int .i64 u.whi] 26) = W4 := ⟨_, rfl⟩
          have hbW4 : Below W3.heap.size W3 W4 := by rw [← hW4]; exact ((below_gw W3 z5).alloc (by simp [gw_size]) _).alloc (by simp [gw_size] <;> omega) _
          have ZcW4 := Lib.hid ((hbW4.block _ (Array.getElem?_eq_some_iff.1 ZcW3.out).1).trans ZcW3.out)
          have ZxW4 := Lib.hid ((hbW4.block _ (Array.getElem?_eq_some_iff.1 ZxW3.out).1).trans ZxW3.out)
          have ZmW4 := Lib.hid ((hbW4.block _ (Array.getElem?_eq_some_iff.1 ZmW3.out).1).trans ZmW3.out)
          have ZvW4 := Lib.hid ((hbW4.block _ (Array.getElem?_eq_some_iff.1 ZvW3.out).1).trans ZvW3.out)
          have ZyW4 := Lib.hid ((hbW4.block _ (Array.getElem?_eq_some_iff.1 ZyW3.out).1).trans ZyW3.out)
          have zgW4 : W4.heap[W3.heap.size + z5.bs.size]? = some (.cells #[.int .i64 u.alo, .int .i64 u.ahi] 26 (0, 0)) := by rw [← hW4]; exact alloc_keep (alloc_at (by simp [gw_size]))
          have ZgW4 := Lib.hid zgW4; clear zgW4
          have zhW4 : W4.heap[W3.heap.size + z5.bs.size + 1]? = some (.cells #[.int .i64 u.wlo, .int .i64 u.whi] 26 (0, 0)) := by rw [← hW4]; exact alloc_at (by simp [gw_size] <;> omega)
          have ZhW4 := Lib.hid zhW4; clear zhW4
          have HBW4 := Lib.hid (thru hbW4 HBW3.out)
          have SBW4 := Lib.hid hbW4; clear hbW4
          have HWW4 := Lib.hid hW4; clear hW4
          rw [HWW4.out]
          clear ec0W3 ec1W3 ec2W3 ex0W3 ex1W3 ex2W3 ex3W3 ex4W3 em0W3 em1W3 em2W3 em3W3 em4W3
          have S4 := Lib.hid (S3.out.trans (SBW4.out.mono S3.out.size))
          have ec0W4 : W4.cell? ⟨w.heap.size, 0, none⟩ = some (.int .i64 C.days) := cell_of_block ZcW4.out 0 (by simp)
          have ec1W4 : W4.cell? ⟨w.heap.size, 1, none⟩ = some (.slice C.aA C.nA C.cA) := cell_of_block ZcW4.out 1 (by simp)
          have ec2W4 : W4.cell? ⟨w.heap.size, 2, none⟩ = some (.slice C.aW C.nW C.cW) := cell_of_block ZcW4.out 2 (by simp)
          have lcW4 := (Array.getElem?_eq_some_iff.1 ZcW4.out).1
          have ex0W4 : W4.cell? ⟨w.heap.size + 1, 0, none⟩ = some (.int .i64 x.day) := cell_of_block ZxW4.out 0 (by simp)
          have ex1W4 : W4.cell? ⟨w.heap.size + 1, 1, none⟩ = some (.int .i64 x.alo) := cell_of_block ZxW4.out 1 (by simp)
          have ex2W4 : W4.cell? ⟨w.heap.size + 1, 2, none⟩ = some (.int .i64 x.ahi) := cell_of_block ZxW4.out 2 (by simp)
          have ex3W4 : W4.cell? ⟨w.heap.size + 1, 3, none⟩ = some (.int .i64 x.wlo) := cell_of_block ZxW4.out 3 (by simp)
          have ex4W4 : W4.cell? ⟨w.heap.size + 1, 4, none⟩ = some (.int .i64 x.whi) := cell_of_block ZxW4.out 4 (by simp)
          have lxW4 := (Array.getElem?_eq_some_iff.1 ZxW4.out).1
          have em0W4 : W4.cell? ⟨w.heap.size + 1 + 1, 0, none⟩ = some (.int .i64 m.day) := cell_of_block ZmW4.out 0 (by simp)
          have em1W4 : W4.cell? ⟨w.heap.size + 1 + 1, 1, none⟩ = some (.int .i64 m.vlo) := cell_of_block ZmW4.out 1 (by simp)
          have em2W4 : W4.cell? ⟨w.heap.size + 1 + 1, 2, none⟩ = some (.int .i64 m.vhi) := cell_of_block ZmW4.out 2 (by simp)
          have em3W4 : W4.cell? ⟨w.heap.size + 1 + 1, 3, none⟩ = some (.int .i64 m.slo) := cell_of_block ZmW4.out 3 (by simp)
          have em4W4 : W4.cell? ⟨w.heap.size + 1 + 1, 4, none⟩ = some (.int .i64 m.shi) := cell_of_block ZmW4.out 4 (by simp)
          have lmW4 := (Array.getElem?_eq_some_iff.1 ZmW4.out).1
          have ev0W4 : W4.cell? ⟨W1.heap.size + z3.bs.size, 0, none⟩ = some (.int .i64 0) := cell_of_block ZvW4.out 0 (by simp)
          have ev1W4 : W4.cell? ⟨W1.heap.size + z3.bs.size, 1, none⟩ = some (.int .i64 0) := cell_of_block ZvW4.out 1 (by simp)
          have ev2W4 : W4.cell? ⟨W1.heap.size + z3.bs.size, 2, none⟩ = some (.int .i64 0) := cell_of_block ZvW4.out 2 (by simp)
          have ev3W4 : W4.cell? ⟨W1.heap.size + z3.bs.size, 3, none⟩ = some (.int .i64 0) := cell_of_block ZvW4.out 3 (by simp)
          have ev4W4 : W4.cell? ⟨W1.heap.size + z3.bs.size, 4, none⟩ = some (.int .i64 0) := cell_of_block ZvW4.out 4 (by simp)
          have lvW4 := (Array.getElem?_eq_some_iff.1 ZvW4.out).1
          have ey0W4 : W4.cell? ⟨W2.heap.size + z4.bs.size, 0, none⟩ = some (.int .i64 y.day) := cell_of_block ZyW4.out 0 (by simp)
          have ey1W4 : W4.cell? ⟨W2.heap.size + z4.bs.size, 1, none⟩ = some (.int .i64 y.alo) := cell_of_block ZyW4.out 1 (by simp)
          have ey2W4 : W4.cell? ⟨W2.heap.size + z4.bs.size, 2, none⟩ = some (.int .i64 y.ahi) := cell_of_block ZyW4.out 2 (by simp)
          have ey3W4 : W4.cell? ⟨W2.heap.size + z4.bs.size, 3, none⟩ = some (.int .i64 y.wlo) := cell_of_block ZyW4.out 3 (by simp)
          have ey4W4 : W4.cell? ⟨W2.heap.size + z4.bs.size, 4, none⟩ = some (.int .i64 y.whi) := cell_of_block ZyW4.out 4 (by simp)
          have lyW4 := (Array.getElem?_eq_some_iff.1 ZyW4.out).1
          have eg0W4 : W4.cell? ⟨W3.heap.size + z5.bs.size, 0, none⟩ = some (.int .i64 u.alo) := cell_of_block ZgW4.out 0 (by simp)
          have eg1W4 : W4.cell? ⟨W3.heap.size + z5.bs.size, 1, none⟩ = some (.int .i64 u.ahi) := cell_of_block ZgW4.out 1 (by simp)
          have lgW4 := (Array.getElem?_eq_some_iff.1 ZgW4.out).1
          have eh0W4 : W4.cell? ⟨W3.heap.size + z5.bs.size + 1, 0, none⟩ = some (.int .i64 u.wlo) := cell_of_block ZhW4.out 0 (by simp)
          have eh1W4 : W4.cell? ⟨W3.heap.size + z5.bs.size + 1, 1, none⟩ = some (.int .i64 u.whi) := cell_of_block ZhW4.out 1 (by simp)
          have lhW4 := (Array.getElem?_eq_some_iff.1 ZhW4.out).1
          go_upto_region 18 with (fail)
          obtain ⟨W5, hW5⟩ : ∃ W5, ((W4)).alloc (.cells #[.int .i64 m.day, .int .i64 (maxZ 0 (m.vlo - kk)), .int .i64 (minZ 2147483648 (m.vhi + kk)), .int .i64 m.slo, .int .i64 m.shi] 44) = W5 := ⟨_, rfl⟩
          have hbW5 : Below W4.heap.size W4 W5 := by rw [← hW5]; exact (Below.refl _ W4).alloc (by simp [gw_size]) _
          have ZcW5 := Lib.hid ((hbW5.block _ (Array.getElem?_eq_some_iff.1 ZcW4.out).1).trans ZcW4.out)
          have ZxW5 := Lib.hid ((hbW5.block _ (Array.getElem?_eq_some_iff.1 ZxW4.out).1).trans ZxW4.out)
          have ZmW5 := Lib.hid ((hbW5.block _ (Array.getElem?_eq_some_iff.1 ZmW4.out).1).trans ZmW4.out)
          have ZvW5 := Lib.hid ((hbW5.block _ (Array.getElem?_eq_some_iff.1 ZvW4.out).1).trans ZvW4.out)
          have ZyW5 := Lib.hid ((hbW5.block _ (Array.getElem?_eq_some_iff.1 ZyW4.out).1).trans ZyW4.out)
          have ZgW5 := Lib.hid ((hbW5.block _ (Array.getElem?_eq_some_iff.1 ZgW4.out).1).trans ZgW4.out)
          have ZhW5 := Lib.hid ((hbW5.block _ (Array.getElem?_eq_some_iff.1 ZhW4.out).1).trans ZhW4.out)
          have zoW5 : W5.heap[W4.heap.size]? = some (.cells #[.int .i64 m.day, .int .i64 (maxZ 0 (m.vlo - kk)), .int .i64 (minZ 2147483648 (m.vhi + kk)), .int .i64 m.slo, .int .i64 m.shi] 44 (0, 0)) := by rw [← hW5]; exact alloc_at (by simp [gw_size])
          have ZoW5 := Lib.hid zoW5; clear zoW5
          have HBW5 := Lib.hid (thru hbW5 HBW4.out)
          have SBW5 := Lib.hid hbW5; clear hbW5
          have HWW5 := Lib.hid hW5; clear hW5
          rw [HWW5.out]
          clear ec0W4 ec1W4 ec2W4 ex0W4 ex1W4 ex2W4 ex3W4 ex4W4 em0W4 em1W4 em2W4 em3W4 em4W4 ev0W4 ev1W4 ev2W4 ev3W4 ev4W4 ey0W4 ey1W4 ey2W4 ey3W4 ey4W4 eg0W4 eg1W4 eh0W4 eh1W4 r0 r1 r2 r3 r4 r5 q0 q1 q2 q3 q4 q5 bm11 bm12 bm21 bm22
          have S5 := Lib.hid (S4.out.trans (SBW5.out.mono S4.out.size))
          have ec0W5 : W5.cell? ⟨w.heap.size, 0, none⟩ = some (.int .i64 C.days) := cell_of_block ZcW5.out 0 (by simp)
          have ec1W5 : W5.cell? ⟨w.heap.size, 1, none⟩ = some (.slice C.aA C.nA C.cA) := cell_of_block ZcW5.out 1 (by simp)
          have ec2W5 : W5.cell? ⟨w.heap.size, 2, none⟩ = some (.slice C.aW C.nW C.cW) := cell_of_block ZcW5.out 2 (by simp)
          have lcW5 := (Array.getElem?_eq_some_iff.1 ZcW5.out).1
          have ex0W5 : W5.cell? ⟨w.heap.size + 1, 0, none⟩ = some (.int .i64 x.day) := cell_of_block ZxW5.out 0 (by simp)
          have ex1W5 : W5.cell? ⟨w.heap.size + 1, 1, none⟩ = some (.int .i64 x.alo) := cell_of_block ZxW5.out 1 (by simp)
          have ex2W5 : W5.cell? ⟨w.heap.size + 1, 2, none⟩ = some (.int .i64 x.ahi) := cell_of_block ZxW5.out 2 (by simp)
          have ex3W5 : W5.cell? ⟨w.heap.size + 1, 3, none⟩ = some (.int .i64 x.wlo) := cell_of_block ZxW5.out 3 (by simp)
          have ex4W5 : W5.cell? ⟨w.heap.size + 1, 4, none⟩ = some (.int .i64 x.whi) := cell_of_block ZxW5.out 4 (by simp)
          have lxW5 := (Array.getElem?_eq_some_iff.1 ZxW5.out).1
          have eo0W5 : W5.cell? ⟨W4.heap.size, 0, none⟩ = some (.int .i64 m.day) := cell_of_block ZoW5.out 0 (by simp)
          have eo1W5 : W5.cell? ⟨W4.heap.size, 1, none⟩ = some (.int .i64 (maxZ 0 (m.vlo - kk))) := cell_of_block ZoW5.out 1 (by simp)
          have eo2W5 : W5.cell? ⟨W4.heap.size, 2, none⟩ = some (.int .i64 (minZ 2147483648 (m.vhi + kk))) := cell_of_block ZoW5.out 2 (by simp)
          have eo3W5 : W5.cell? ⟨W4.heap.size, 3, none⟩ = some (.int .i64 m.slo) := cell_of_block ZoW5.out 3 (by simp)
          have eo4W5 : W5.cell? ⟨W4.heap.size, 4, none⟩ = some (.int .i64 m.shi) := cell_of_block ZoW5.out 4 (by simp)
          have loW5 := (Array.getElem?_eq_some_iff.1 ZoW5.out).1
          go_wp2_with fail
          refine (Calls.grown (MO'.out _ (S5.out))).mono ?_
          rintro e w1 ⟨rfl, z6, rfl⟩
          go_wp2_with fail
          refine (Calls.gw_of (alive_any _)).mono ?_
          rintro e w1 ⟨rfl, z7, rfl⟩
          go_wp2_with fail
          go_ret
          exact ⟨rfl, HBW5.out.gw z7⟩
    · have h1 : measF C x k F G m = measE C x k F G m := if_neg h0
      have h2 : measV C x k F G m = zeroCont := if_neg h0
      have h3 : showV C x k F G m = 0 := if_neg h0
      rw [h1, h2, zero_val] at ME
      rw [h3] at SH
      clear h1 h2 h3 PR MO
      generalize measE C x k F G m = E at *
      generalize atV C x k F G m.day = y at *
      generalize errH C x k F G m.day = E2 at *
      unfold Cont.val Reg.val at ME SH
      unfold Cont.val at AT
      have ne : (E != 0) = true := by simpa using h0
      have ME' := Lib.hid ME; clear ME h0
      have SH' := Lib.hid SH; clear SH
      have AT' := Lib.hid AT; clear AT
      go_wp2_with fail
      refine (Calls.gw_of (SH'.out _ (below_gw W1 z1))).mono ?_
      rintro e w1 ⟨rfl, z2, rfl⟩
      go_wp2_with fail
      refine (Calls.gw_of (ME'.out _ (below_gw W1 z2))).mono ?_
      rintro e w1 ⟨rfl, z3, rfl⟩
      go_upto_region 5 with (fail)
      obtain ⟨W2, hW2⟩ : ∃ W2, ((gw W1 z3)).alloc (.cells #[.int .i64 0, .int .i64 0, .int .i64 0, .int .i64 0, .int .i64 0] 28) = W2 := ⟨_, rfl⟩
      have hbW2 : Below W1.heap.size W1 W2 := by rw [← hW2]; exact (below_gw W1 z3).alloc (by simp [gw_size]) _
      have ZcW2 := Lib.hid ((hbW2.block _ (Array.getElem?_eq_some_iff.1 Zc0.out).1).trans Zc0.out)
      have ZxW2 := Lib.hid ((hbW2.block _ (Array.getElem?_eq_some_iff.1 Zc1.out).1).trans Zc1.out)
      have ZmW2 := Lib.hid ((hbW2.block _ (Array.getElem?_eq_some_iff.1 Zc2.out).1).trans Zc2.out)
      have zvW2 : W2.heap[W1.heap.size + z3.bs.size]? = some (.cells #[.int .i64 0, .int .i64 0, .int .i64 0, .int .i64 0, .int .i64 0] 28 (0, 0)) := by rw [← hW2]; exact alloc_at (by simp [gw_size])
      have ZvW2 := Lib.hid zvW2; clear zvW2
      have HBW2 := Lib.hid (thru hbW2 HBc.out)
      have SBW2 := Lib.hid hbW2; clear hbW2
      have HWW2 := Lib.hid hW2; clear hW2
      rw [HWW2.out]
      clear c00 c01 c02 c10 c11 c12 c13 c14 c20 c21 c22 c23 c24
      have S2 := Lib.hid SBW2.out
      have ec0W2 : W2.cell? ⟨w.heap.size, 0, none⟩ = some (.int .i64 C.days) := cell_of_block ZcW2.out 0 (by simp)
      have ec1W2 : W2.cell? ⟨w.heap.size, 1, none⟩ = some (.slice C.aA C.nA C.cA) := cell_of_block ZcW2.out 1 (by simp)
      have ec2W2 : W2.cell? ⟨w.heap.size, 2, none⟩ = some (.slice C.aW C.nW C.cW) := cell_of_block ZcW2.out 2 (by simp)
      have lcW2 := (Array.getElem?_eq_some_iff.1 ZcW2.out).1
      have ex0W2 : W2.cell? ⟨w.heap.size + 1, 0, none⟩ = some (.int .i64 x.day) := cell_of_block ZxW2.out 0 (by simp)
      have ex1W2 : W2.cell? ⟨w.heap.size + 1, 1, none⟩ = some (.int .i64 x.alo) := cell_of_block ZxW2.out 1 (by simp)
      have ex2W2 : W2.cell? ⟨w.heap.size + 1, 2, none⟩ = some (.int .i64 x.ahi) := cell_of_block ZxW2.out 2 (by simp)
      have ex3W2 : W2.cell? ⟨w.heap.size + 1, 3, none⟩ = some (.int .i64 x.wlo) := cell_of_block ZxW2.out 3 (by simp)
      have ex4W2 : W2.cell? ⟨w.heap.size + 1, 4, none⟩ = some (.int .i64 x.whi) := cell_of_block ZxW2.out 4 (by simp)
      have lxW2 := (Array.getElem?_eq_some_iff.1 ZxW2.out).1
      have em0W2 : W2.cell? ⟨w.heap.size + 1 + 1, 0, none⟩ = some (.int .i64 m.day) := cell_of_block ZmW2.out 0 (by simp)
      have em1W2 : W2.cell? ⟨w.heap.size + 1 + 1, 1, none⟩ = some (.int .i64 m.vlo) := cell_of_block ZmW2.out 1 (by simp)
      have em2W2 : W2.cell? ⟨w.heap.size + 1 + 1, 2, none⟩ = some (.int .i64 m.vhi) := cell_of_block ZmW2.out 2 (by simp)
      have em3W2 : W2.cell? ⟨w.heap.size + 1 + 1, 3, none⟩ = some (.int .i64 m.slo) := cell_of_block ZmW2.out 3 (by simp)
      have em4W2 : W2.cell? ⟨w.heap.size + 1 + 1, 4, none⟩ = some (.int .i64 m.shi) := cell_of_block ZmW2.out 4 (by simp)
      have lmW2 := (Array.getElem?_eq_some_iff.1 ZmW2.out).1
      go_wp2_with fail
      refine (Calls.grown (AT'.out _ (S2.out))).mono ?_
      rintro e w1 ⟨rfl, z4, rfl⟩
      go_upto_region 6 with (fail)
      obtain ⟨W3, hW3⟩ : ∃ W3, ((gw W2 z4)).alloc (.cells #[.int .i64 y.day, .int .i64 y.alo, .int .i64 y.ahi, .int .i64 y.wlo, .int .i64 y.whi] 28) = W3 := ⟨_, rfl⟩
      have hbW3 : Below W2.heap.size W2 W3 := by rw [← hW3]; exact (below_gw W2 z4).alloc (by simp [gw_size]) _
      have ZcW3 := Lib.hid ((hbW3.block _ (Array.getElem?_eq_some_iff.1 ZcW2.out).1).trans ZcW2.out)
      have ZxW3 := Lib.hid ((hbW3.block _ (Array.getElem?_eq_some_iff.1 ZxW2.out).1).trans ZxW2.out)
      have ZmW3 := Lib.hid ((hbW3.block _ (Array.getElem?_eq_some_iff.1 ZmW2.out).1).trans ZmW2.out)
      have ZvW3 := Lib.hid ((hbW3.block _ (Array.getElem?_eq_some_iff.1 ZvW2.out).1).trans ZvW2.out)
      have zyW3 : W3.heap[W2.heap.size + z4.bs.size]? = some (.cells #[.int .i64 y.day, .int .i64 y.alo, .int .i64 y.ahi, .int .i64 y.wlo, .int .i64 y.whi] 28 (0, 0)) := by rw [← hW3]; exact alloc_at (by simp [gw_size])
      have ZyW3 := Lib.hid zyW3; clear zyW3
      have HBW3 := Lib.hid (thru hbW3 HBW2.out)
      have SBW3 := Lib.hid hbW3; clear hbW3
      have HWW3 := Lib.hid hW3; clear hW3
      rw [HWW3.out]
      clear ec0W2 ec1W2 ec2W2 ex0W2 ex1W2 ex2W2 ex3W2 ex4W2 em0W2 em1W2 em2W2 em3W2 em4W2
      have S3 := Lib.hid (S2.out.trans (SBW3.out.mono S2.out.size))
      have ev0W3 : W3.cell? ⟨W1.heap.size + z3.bs.size, 0, none⟩ = some (.int .i64 0) := cell_of_block ZvW3.out 0 (by simp)
      have ev1W3 : W3.cell? ⟨W1.heap.size + z3.bs.size, 1, none⟩ = some (.int .i64 0) := cell_of_block ZvW3.out 1 (by simp)
      have ev2W3 : W3.cell? ⟨W1.heap.size + z3.bs.size, 2, none⟩ = some (.int .i64 0) := cell_of_block ZvW3.out 2 (by simp)
      have ev3W3 : W3.cell? ⟨W1.heap.size + z3.bs.size, 3, none⟩ = some (.int .i64 0) := cell_of_block ZvW3.out 3 (by simp)
      have ev4W3 : W3.cell? ⟨W1.heap.size + z3.bs.size, 4, none⟩ = some (.int .i64 0) := cell_of_block ZvW3.out 4 (by simp)
      have lvW3 := (Array.getElem?_eq_some_iff.1 ZvW3.out).1
      go_wp2_with fail
      refine (Calls.grown (alive_any _)).mono ?_
      rintro e w1 ⟨rfl, z5, rfl⟩
      go_wp2_with fail
      go_ret
      exact ⟨rfl, HBW3.out.gw z5⟩
end Go.Proofs.Ytljofnmgddfljaa
