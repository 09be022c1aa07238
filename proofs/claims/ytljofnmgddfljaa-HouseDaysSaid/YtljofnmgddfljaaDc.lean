/- HouseDays walked: it returns true. No conditions beyond each theorem's own. -/
import Derived.Test.YtljofnmgddfljaaCg
import Derived.Test.YtljofnmgddfljaaCe
set_option linter.unusedVariables false
set_option linter.unusedSimpArgs false
set_option linter.unusedSectionVars false
set_option linter.constructorNameAsVariable false
namespace Go.Proofs.Ytljofnmgddfljaa
open Go.RowKit

attribute [local go_sem] gw_cell gw_frozen gw_size

set_option maxRecDepth 100000 in
set_option maxHeartbeats 4000000 in
theorem days_law_any (C : Clim) (x : Cont) (aS : Option Addr) (k cS : Nat) (F G : Nat → Int) (day tu least : Int) (w : World) (hC : C.In w) (hl : Lens C k) (hS : SpansAt w aS k F G) :
    Calls Try.prog 10 #[.agg #[.int .i64 C.days, .slice C.aA C.nA C.cA, .slice C.aW C.nW C.cW], x.val, .slice aS k cS, .int .i64 day, .int .i64 tu, .int .i64 least] w (True1 w) := by
  unfold Cont.val
  obtain ⟨W1, hW1⟩ : ∃ W1, ((w.alloc (.cells #[.int .i64 C.days, .slice C.aA C.nA C.cA, .slice C.aW C.nW C.cW] 24)).alloc (.cells #[.int .i64 x.day, .int .i64 x.alo, .int .i64 x.ahi, .int .i64 x.wlo, .int .i64 x.whi] 28)).alloc (.cells #[.int .i64 day, .int .i64 tu] 3) = W1 := ⟨_, rfl⟩
  have hBc : Below w.heap.size w W1 := by rw [← hW1]; exact ((below_alloc _ _).alloc (by simp) _).alloc (by simp <;> omega) _
  have zc0 : W1.heap[w.heap.size]? = some (.cells #[.int .i64 C.days, .slice C.aA C.nA C.cA, .slice C.aW C.nW C.cW] 24 (0, 0)) := by rw [← hW1]; exact alloc_keep (alloc_keep (alloc_at rfl))
  have zc1 : W1.heap[w.heap.size + 1]? = some (.cells #[.int .i64 x.day, .int .i64 x.alo, .int .i64 x.ahi, .int .i64 x.wlo, .int .i64 x.whi] 28 (0, 0)) := by rw [← hW1]; exact alloc_keep (alloc_at (by simp))
  have zc2 : W1.heap[w.heap.size + 1 + 1]? = some (.cells #[.int .i64 day, .int .i64 tu] 3 (0, 0)) := by rw [← hW1]; exact alloc_at (by simp <;> omega)
  have c00 : W1.cell? ⟨w.heap.size, 0, none⟩ = some (.int .i64 C.days) := cell_of_block zc0 0 (by simp)
  have c01 : W1.cell? ⟨w.heap.size, 1, none⟩ = some (.slice C.aA C.nA C.cA) := cell_of_block zc0 1 (by simp)
  have c02 : W1.cell? ⟨w.heap.size, 2, none⟩ = some (.slice C.aW C.nW C.cW) := cell_of_block zc0 2 (by simp)
  have c10 : W1.cell? ⟨w.heap.size + 1, 0, none⟩ = some (.int .i64 x.day) := cell_of_block zc1 0 (by simp)
  have c11 : W1.cell? ⟨w.heap.size + 1, 1, none⟩ = some (.int .i64 x.alo) := cell_of_block zc1 1 (by simp)
  have c12 : W1.cell? ⟨w.heap.size + 1, 2, none⟩ = some (.int .i64 x.ahi) := cell_of_block zc1 2 (by simp)
  have c13 : W1.cell? ⟨w.heap.size + 1, 3, none⟩ = some (.int .i64 x.wlo) := cell_of_block zc1 3 (by simp)
  have c14 : W1.cell? ⟨w.heap.size + 1, 4, none⟩ = some (.int .i64 x.whi) := cell_of_block zc1 4 (by simp)
  have c20 : W1.cell? ⟨w.heap.size + 1 + 1, 0, none⟩ = some (.int .i64 day) := cell_of_block zc2 0 (by simp)
  have c21 : W1.cell? ⟨w.heap.size + 1 + 1, 1, none⟩ = some (.int .i64 tu) := cell_of_block zc2 1 (by simp)
  have lc0 := (Array.getElem?_eq_some_iff.1 zc0).1
  have lc1 := (Array.getElem?_eq_some_iff.1 zc1).1
  have lc2 := (Array.getElem?_eq_some_iff.1 zc2).1
  have Zc0 := Lib.hid zc0
  have Zc1 := Lib.hid zc1
  have Zc2 := Lib.hid zc2
  clear zc0 zc1 zc2
  have HBc := Lib.hid hBc; clear hBc
  have HWc := Lib.hid hW1; clear hW1
  have GR := great_any C x aS k cS (some ⟨w.heap.size + 1 + 1, 0, none⟩) 2 2 _ W1 (hC.below HBc.out) hl (ints_two lc2 c20 c21) (by omega)
  have HC := Lib.hid (hC.below HBc.out); clear hC
  have HS := Lib.hid (hS.below HBc.out); clear hS
  unfold Cont.val at GR
  have GR' := Lib.hid GR; clear GR c20 c21
  go_enter Try.func10, Try.ntmps10
  go_wp2_with fail
  rw [HWc.out]
  go_wp2_with fail
  refine GR'.out.mono ?_
  rintro e w1 ⟨b, rfl, hg, hb⟩
  obtain ⟨z1, rfl⟩ := gw_of_below hb
  clear hb
  cases b with
  | true =>
    clear hg
    go_wp2_with fail
    refine (Calls.gw_of (alive_any _)).mono ?_
    rintro e w1 ⟨rfl, z2, rfl⟩
    go_wp2_with fail
    go_ret
    exact ⟨rfl, HBc.out.gw z2⟩
  | false =>
    have gd := hg rfl
    have hk : k ≤ 1000000000000000 := by have := gd.st; omega
    have AT := fun W (hb : Below W1.heap.size W1 W) => At_any C x aS k cS F G day W (HC.out.below hb) gd.fits hk (HS.out.below hb)
    have RA := fun W (hb : Below W1.heap.size W1 W) => rAt_any C x aS k cS F G day W (HC.out.below hb) gd.fits hk (HS.out.below hb)
    have WE := fun W (hb : Below W1.heap.size W1 W) => Weak_any C x aS k cS F G tu least W (HC.out.below hb) gd.fits hk (HS.out.below hb)
    have RW := fun W (hb : Below W1.heap.size W1 W) => rWeak_any C x aS k cS F G tu least W (HC.out.below hb) gd.fits hk (HS.out.below hb)
    have ST := fun W (hb : Below W1.heap.size W1 W) => Strength_any x W
    have RT := fun W (hb : Below W1.heap.size W1 W) => rStrength_any x W
    have CH := fun W (hb : Below W1.heap.size W1 W) => Check_any C W (HC.out.below hb) gd.fits
    have RC := fun W (hb : Below W1.heap.size W1 W) => rCheck_any C W (HC.out.below hb) gd.fits
    clear hg gd hk
    generalize atV C x k F G day = V at *
    generalize errH C x k F G day = E at *
    generalize weakR C x k F G tu least = n at *
    generalize weakF C x k F G tu least = E2 at *
    generalize strV x = st at *
    obtain ⟨s1, s2⟩ := st
    dsimp only at ST RT
    generalize strE x = E3 at *
    generalize chkE C = E4 at *
    unfold Cont.val at AT RA WE RW ST RT
    have AT' := Lib.hid AT; clear AT
    have RA' := Lib.hid RA; clear RA
    have WE' := Lib.hid WE; clear WE
    have RW' := Lib.hid RW; clear RW
    have ST' := Lib.hid ST; clear ST
    have RT' := Lib.hid RT; clear RT
    have CH' := Lib.hid CH; clear CH
    have RC' := Lib.hid RC; clear RC
    go_wp2_with fail
    refine (Calls.gw_of (AT'.out _ (below_gw W1 z1))).mono ?_
    rintro e w1 ⟨rfl, z2, rfl⟩
    go_upto_region 4 with (fail)
    obtain ⟨W2, hW2⟩ : ∃ W2, ((gw W1 z2)).alloc (.cells #[.int .i64 V.day, .int .i64 V.alo, .int .i64 V.ahi, .int .i64 V.wlo, .int .i64 V.whi] 28) = W2 := ⟨_, rfl⟩
    have hbW2 : Below W1.heap.size W1 W2 := by rw [← hW2]; exact (below_gw W1 z2).alloc (by simp [gw_size]) _
    have ZcW2 := Lib.hid ((hbW2.block _ (Array.getElem?_eq_some_iff.1 Zc0.out).1).trans Zc0.out)
    have ZxW2 := Lib.hid ((hbW2.block _ (Array.getElem?_eq_some_iff.1 Zc1.out).1).trans Zc1.out)
    have zaW2 : W2.heap[W1.heap.size + z2.bs.size]? = some (.cells #[.int .i64 V.day, .int .i64 V.alo, .int .i64 V.ahi, .int .i64 V.wlo, .int .i64 V.whi] 28 (0, 0)) := by rw [← hW2]; exact alloc_at (by simp [gw_size])
    have ZaW2 := Lib.hid zaW2; clear zaW2
    have HBW2 := Lib.hid (thru hbW2 HBc.out)
    have SBW2 := Lib.hid hbW2; clear hbW2
    have HWW2 := Lib.hid hW2; clear hW2
    rw [HWW2.out]
    clear c00 c01 c02 c10 c11 c12 c13 c14
    have S2 := Lib.hid SBW2.out
    have ec0W2 : W2.cell? ⟨w.heap.size, 0, none⟩ = some (.int .i64 C.days) := cell_of_block ZcW2.out 0 (by simp)
    have ec1W2 : W2.cell? ⟨w.heap.size, 1, none⟩ = some (.slice C.aA C.nA C.cA) := cell_of_block ZcW2.out 1 (by simp)
    have ec2W2 : W2.cell? ⟨w.heap.size, 2, none⟩ = some (.slice C.aW C.nW C.cW) := cell_of_block ZcW2.out 2 (by simp)
    have lcW2 := (Array.getElem?_eq_some_iff.1 ZcW2.out).1
    have ex0W2 : W2.cell? ⟨w.heap.size + 1, 0, none⟩ = some (.int .i64 x.day) := cell_of_block ZxW2.out 0 (by simp)
    have ex1W2 : W2.cell? ⟨w.heap.size + 1, 1, none⟩ = some (.int .i64 x.alo) := cell_of_block ZxW2.out 1 (by simp)
    have ex2W2 : W2.cell? ⟨w.heap.size + 1, 2, none⟩ = some (.int .i64 x.ahi) := cell_of_block ZxW2.out 2 (by simp)
    have ex3W2 : W2.cell? ⟨w.heap.size + 1, 3, none⟩ = some (.int .i64 x.wlo) := cell_of_block ZxW2.out 3 (by simp)
    have ex4W2 : W2.cell? ⟨w.heap.size + 1, 4, none⟩ = some (.int .i64 x.whi) := cell_of_block ZxW2.out 4 (by simp)
    have lxW2 := (Array.getElem?_eq_some_iff.1 ZxW2.out).1
    go_wp2_with fail
    refine (Calls.grown (RA'.out _ (S2.out))).mono ?_
    rintro e w1 ⟨rfl, z3, rfl⟩
    go_upto_region 5 with (fail)
    obtain ⟨W3, hW3⟩ : ∃ W3, ((gw W2 z3)).alloc (.cells #[.int .i64 V.day, .int .i64 V.alo, .int .i64 V.ahi, .int .i64 V.wlo, .int .i64 V.whi] 28) = W3 := ⟨_, rfl⟩
    have hbW3 : Below W2.heap.size W2 W3 := by rw [← hW3]; exact (below_gw W2 z3).alloc (by simp [gw_size]) _
    have ZcW3 := Lib.hid ((hbW3.block _ (Array.getElem?_eq_some_iff.1 ZcW2.out).1).trans ZcW2.out)
    have ZxW3 := Lib.hid ((hbW3.block _ (Array.getElem?_eq_some_iff.1 ZxW2.out).1).trans ZxW2.out)
    have ZaW3 := Lib.hid ((hbW3.block _ (Array.getElem?_eq_some_iff.1 ZaW2.out).1).trans ZaW2.out)
    have zbW3 : W3.heap[W2.heap.size + z3.bs.size]? = some (.cells #[.int .i64 V.day, .int .i64 V.alo, .int .i64 V.ahi, .int .i64 V.wlo, .int .i64 V.whi] 28 (0, 0)) := by rw [← hW3]; exact alloc_at (by simp [gw_size])
    have ZbW3 := Lib.hid zbW3; clear zbW3
    have HBW3 := Lib.hid (thru hbW3 HBW2.out)
    have SBW3 := Lib.hid hbW3; clear hbW3
    have HWW3 := Lib.hid hW3; clear hW3
    rw [HWW3.out]
    clear ec0W2 ec1W2 ec2W2 ex0W2 ex1W2 ex2W2 ex3W2 ex4W2
    have S3 := Lib.hid (S2.out.trans (SBW3.out.mono S2.out.size))
    have ec0W3 : W3.cell? ⟨w.heap.size, 0, none⟩ = some (.int .i64 C.days) := cell_of_block ZcW3.out 0 (by simp)
    have ec1W3 : W3.cell? ⟨w.heap.size, 1, none⟩ = some (.slice C.aA C.nA C.cA) := cell_of_block ZcW3.out 1 (by simp)
    have ec2W3 : W3.cell? ⟨w.heap.size, 2, none⟩ = some (.slice C.aW C.nW C.cW) := cell_of_block ZcW3.out 2 (by simp)
    have lcW3 := (Array.getElem?_eq_some_iff.1 ZcW3.out).1
    have ex0W3 : W3.cell? ⟨w.heap.size + 1, 0, none⟩ = some (.int .i64 x.day) := cell_of_block ZxW3.out 0 (by simp)
    have ex1W3 : W3.cell? ⟨w.heap.size + 1, 1, none⟩ = some (.int .i64 x.alo) := cell_of_block ZxW3.out 1 (by simp)
    have ex2W3 : W3.cell? ⟨w.heap.size + 1, 2, none⟩ = some (.int .i64 x.ahi) := cell_of_block ZxW3.out 2 (by simp)
    have ex3W3 : W3.cell? ⟨w.heap.size + 1, 3, none⟩ = some (.int .i64 x.wlo) := cell_of_block ZxW3.out 3 (by simp)
    have ex4W3 : W3.cell? ⟨w.heap.size + 1, 4, none⟩ = some (.int .i64 x.whi) := cell_of_block ZxW3.out 4 (by simp)
    have lxW3 := (Array.getElem?_eq_some_iff.1 ZxW3.out).1
    go_wp2_with fail
    refine (Calls.grown (ST'.out _ (S3.out))).mono ?_
    rintro e w1 ⟨rfl, z4, rfl⟩
    go_upto_region 6 with (fail)
    obtain ⟨W4, hW4⟩ : ∃ W4, ((gw W3 z4)).alloc (.cells #[.int .i64 s1, .int .i64 s2] 26) = W4 := ⟨_, rfl⟩
    have hbW4 : Below W3.heap.size W3 W4 := by rw [← hW4]; exact (below_gw W3 z4).alloc (by simp [gw_size]) _
    have ZcW4 := Lib.hid ((hbW4.block _ (Array.getElem?_eq_some_iff.1 ZcW3.out).1).trans ZcW3.out)
    have ZxW4 := Lib.hid ((hbW4.block _ (Array.getElem?_eq_some_iff.1 ZxW3.out).1).trans ZxW3.out)
    have ZaW4 := Lib.hid ((hbW4.block _ (Array.getElem?_eq_some_iff.1 ZaW3.out).1).trans ZaW3.out)
    have ZbW4 := Lib.hid ((hbW4.block _ (Array.getElem?_eq_some_iff.1 ZbW3.out).1).trans ZbW3.out)
    have zsW4 : W4.heap[W3.heap.size + z4.bs.size]? = some (.cells #[.int .i64 s1, .int .i64 s2] 26 (0, 0)) := by rw [← hW4]; exact alloc_at (by simp [gw_size])
    have ZsW4 := Lib.hid zsW4; clear zsW4
    have HBW4 := Lib.hid (thru hbW4 HBW3.out)
    have SBW4 := Lib.hid hbW4; clear hbW4
    have HWW4 := Lib.hid hW4; clear hW4
    rw [HWW4.out]
    clear ec0W3 ec1W3 ec2W3 ex0W3 ex1W3 ex2W3 ex3W3 ex4W3
    have S4 := Lib.hid (S3.out.trans (SBW4.out.mono S3.out.size))
    have ec0W4 : W4.cell? ⟨w.heap.size, 0, none⟩ = some (.int .i64 C.days) := cell_of_block ZcW4.out 0 (by simp)
    have ec1W4 : W4.cell? ⟨w.heap.size, 1, none⟩ = some (.slice C.aA C.nA C.cA) := cell_of_block ZcW4.out 1 (by simp)
    have ec2W4 : W4.cell? ⟨w.heap.size, 2, none⟩ = some (.slice C.aW C.nW C.cW) := cell_of_block ZcW4.out 2 (by simp)
    have lcW4 := (Array.getElem?_eq_some_iff.1 ZcW4.out).1
    have ex0W4 : W4.cell? ⟨w.heap.size + 1, 0, none⟩ = some (.int .i64 x.day) := cell_of_block ZxW4.out 0 (by simp)
    have ex1W4 : W4.cell? ⟨w.heap.size + 1, 1, none⟩ = some (.int .i64 x.alo) := cell_of_block ZxW4.out 1 (by simp)
    have ex2W4 : W4.cell? ⟨w.heap.size + 1, 2, none⟩ = some (.int .i64 x.ahi) := cell_of_block ZxW4.out 2 (by simp)
    have ex3W4 : W4.cell? ⟨w.heap.size + 1, 3, none⟩ = some (.int .i64 x.wlo) := cell_of_block ZxW4.out 3 (by simp)
    have ex4W4 : W4.cell? ⟨w.heap.size + 1, 4, none⟩ = some (.int .i64 x.whi) := cell_of_block ZxW4.out 4 (by simp)
    have lxW4 := (Array.getElem?_eq_some_iff.1 ZxW4.out).1
    go_wp2_with fail
    refine (Calls.grown (RT'.out _ (S4.out))).mono ?_
    rintro e w1 ⟨rfl, z5, rfl⟩
    go_upto_region 7 with (fail)
    obtain ⟨W5, hW5⟩ : ∃ W5, ((gw W4 z5)).alloc (.cells #[.int .i64 s1, .int .i64 s2] 26) = W5 := ⟨_, rfl⟩
    have hbW5 : Below W4.heap.size W4 W5 := by rw [← hW5]; exact (below_gw W4 z5).alloc (by simp [gw_size]) _
    have ZcW5 := Lib.hid ((hbW5.block _ (Array.getElem?_eq_some_iff.1 ZcW4.out).1).trans ZcW4.out)
    have ZxW5 := Lib.hid ((hbW5.block _ (Array.getElem?_eq_some_iff.1 ZxW4.out).1).trans ZxW4.out)
    have ZaW5 := Lib.hid ((hbW5.block _ (Array.getElem?_eq_some_iff.1 ZaW4.out).1).trans ZaW4.out)
    have ZbW5 := Lib.hid ((hbW5.block _ (Array.getElem?_eq_some_iff.1 ZbW4.out).1).trans ZbW4.out)
    have ZsW5 := Lib.hid ((hbW5.block _ (Array.getElem?_eq_some_iff.1 ZsW4.out).1).trans ZsW4.out)
    have ztW5 : W5.heap[W4.heap.size + z5.bs.size]? = some (.cells #[.int .i64 s1, .int .i64 s2] 26 (0, 0)) := by rw [← hW5]; exact alloc_at (by simp [gw_size])
    have ZtW5 := Lib.hid ztW5; clear ztW5
    have HBW5 := Lib.hid (thru hbW5 HBW4.out)
    have SBW5 := Lib.hid hbW5; clear hbW5
    have HWW5 := Lib.hid hW5; clear hW5
    rw [HWW5.out]
    clear ec0W4 ec1W4 ec2W4 ex0W4 ex1W4 ex2W4 ex3W4 ex4W4
    have S5 := Lib.hid (S4.out.trans (SBW5.out.mono S4.out.size))
    have ec0W5 : W5.cell? ⟨w.heap.size, 0, none⟩ = some (.int .i64 C.days) := cell_of_block ZcW5.out 0 (by simp)
    have ec1W5 : W5.cell? ⟨w.heap.size, 1, none⟩ = some (.slice C.aA C.nA C.cA) := cell_of_block ZcW5.out 1 (by simp)
    have ec2W5 : W5.cell? ⟨w.heap.size, 2, none⟩ = some (.slice C.aW C.nW C.cW) := cell_of_block ZcW5.out 2 (by simp)
    have lcW5 := (Array.getElem?_eq_some_iff.1 ZcW5.out).1
    have ex0W5 : W5.cell? ⟨w.heap.size + 1, 0, none⟩ = some (.int .i64 x.day) := cell_of_block ZxW5.out 0 (by simp)
    have ex1W5 : W5.cell? ⟨w.heap.size + 1, 1, none⟩ = some (.int .i64 x.alo) := cell_of_block ZxW5.out 1 (by simp)
    have ex2W5 : W5.cell? ⟨w.heap.size + 1, 2, none⟩ = some (.int .i64 x.ahi) := cell_of_block ZxW5.out 2 (by simp)
    have ex3W5 : W5.cell? ⟨w.heap.size + 1, 3, none⟩ = some (.int .i64 x.wlo) := cell_of_block ZxW5.out 3 (by simp)
    have ex4W5 : W5.cell? ⟨w.heap.size + 1, 4, none⟩ = some (.int .i64 x.whi) := cell_of_block ZxW5.out 4 (by simp)
    have lxW5 := (Array.getElem?_eq_some_iff.1 ZxW5.out).1
    have ea0W5 : W5.cell? ⟨W1.heap.size + z2.bs.size, 0, none⟩ = some (.int .i64 V.day) := cell_of_block ZaW5.out 0 (by simp)
    have ea1W5 : W5.cell? ⟨W1.heap.size + z2.bs.size, 1, none⟩ = some (.int .i64 V.alo) := cell_of_block ZaW5.out 1 (by simp)
    have ea2W5 : W5.cell? ⟨W1.heap.size + z2.bs.size, 2, none⟩ = some (.int .i64 V.ahi) := cell_of_block ZaW5.out 2 (by simp)
    have ea3W5 : W5.cell? ⟨W1.heap.size + z2.bs.size, 3, none⟩ = some (.int .i64 V.wlo) := cell_of_block ZaW5.out 3 (by simp)
    have ea4W5 : W5.cell? ⟨W1.heap.size + z2.bs.size, 4, none⟩ = some (.int .i64 V.whi) := cell_of_block ZaW5.out 4 (by simp)
    have laW5 := (Array.getElem?_eq_some_iff.1 ZaW5.out).1
    have eb0W5 : W5.cell? ⟨W2.heap.size + z3.bs.size, 0, none⟩ = some (.int .i64 V.day) := cell_of_block ZbW5.out 0 (by simp)
    have eb1W5 : W5.cell? ⟨W2.heap.size + z3.bs.size, 1, none⟩ = some (.int .i64 V.alo) := cell_of_block ZbW5.out 1 (by simp)
    have eb2W5 : W5.cell? ⟨W2.heap.size + z3.bs.size, 2, none⟩ = some (.int .i64 V.ahi) := cell_of_block ZbW5.out 2 (by simp)
    have eb3W5 : W5.cell? ⟨W2.heap.size + z3.bs.size, 3, none⟩ = some (.int .i64 V.wlo) := cell_of_block ZbW5.out 3 (by simp)
    have eb4W5 : W5.cell? ⟨W2.heap.size + z3.bs.size, 4, none⟩ = some (.int .i64 V.whi) := cell_of_block ZbW5.out 4 (by simp)
    have lbW5 := (Array.getElem?_eq_some_iff.1 ZbW5.out).1
    have es0W5 : W5.cell? ⟨W3.heap.size + z4.bs.size, 0, none⟩ = some (.int .i64 s1) := cell_of_block ZsW5.out 0 (by simp)
    have es1W5 : W5.cell? ⟨W3.heap.size + z4.bs.size, 1, none⟩ = some (.int .i64 s2) := cell_of_block ZsW5.out 1 (by simp)
    have lsW5 := (Array.getElem?_eq_some_iff.1 ZsW5.out).1
    have et0W5 : W5.cell? ⟨W4.heap.size + z5.bs.size, 0, none⟩ = some (.int .i64 s1) := cell_of_block ZtW5.out 0 (by simp)
    have et1W5 : W5.cell? ⟨W4.heap.size + z5.bs.size, 1, none⟩ = some (.int .i64 s2) := cell_of_block ZtW5.out 1 (by simp)
    have ltW5 := (Array.getElem?_eq_some_iff.1 ZtW5.out).1
    go_wp2_with fail
    refine (Calls.grown (WE'.out _ (S5.out))).mono ?_
    rintro e w1 ⟨rfl, z6, rfl⟩
    go_wp2_with fail
    refine (Calls.gw_of (RW'.out _ (S5.out.trans ((below_gw W5 z6).mono S5.out.size)))).mono ?_
    rintro e w1 ⟨rfl, z7, rfl⟩
    go_upto_region 9 with (fail)
    refine wp_region_gw2 (by kernel_rfl) (by kernel_rfl) ?_
    repeat (go_big_quiet_step (first | (go_at_call 39; exact Calls.gw_of (CH'.out _ (S5.out.trans ((below_gw W5 _).mono S5.out.size)))) | (go_at_call 40; exact Calls.gw_of (RC'.out _ (S5.out.trans ((below_gw W5 _).mono S5.out.size)))) | (go_at_call 16; exact Calls.gw_of (alive_any _))))
    refine wpQuiet_nil ?_
    rintro _ ⟨z9, rfl⟩
    go_wp2_with fail
    go_ret
    exact ⟨rfl, HBW5.out.gw z9⟩
end Go.Proofs.Ytljofnmgddfljaa
