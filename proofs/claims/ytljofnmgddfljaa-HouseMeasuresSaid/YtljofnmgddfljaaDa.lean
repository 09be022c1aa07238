/- HouseMeasures walked: it returns true. No conditions beyond each theorem's own. -/
import Derived.Test.YtljofnmgddfljaaCb
import Derived.Test.YtljofnmgddfljaaCe
set_option linter.unusedVariables false
set_option linter.unusedSimpArgs false
set_option linter.unusedSectionVars false
set_option linter.constructorNameAsVariable false
namespace Go.Proofs.Ytljofnmgddfljaa
open Go.RowKit

attribute [local go_sem] gw_cell gw_frozen gw_size

set_option maxRecDepth 100000 in
set_option maxHeartbeats 4000000 in
theorem measures_any (C : Clim) (x : Cont) (aS : Option Addr) (k cS : Nat) (F G : Nat → Int) (m : Reg) (w : World) (hC : C.In w) (hl : Lens C k) (hS : SpansAt w aS k F G) :
    Calls Try.prog 4 #[.agg #[.int .i64 C.days, .slice C.aA C.nA C.cA, .slice C.aW C.nW C.cW], x.val, .slice aS k cS, m.val] w (True1 w) := by
  unfold Cont.val Reg.val
  obtain ⟨W1, hW1⟩ : ∃ W1, (((w.alloc (.cells #[.int .i64 C.days, .slice C.aA C.nA C.cA, .slice C.aW C.nW C.cW] 24)).alloc (.cells #[.int .i64 x.day, .int .i64 x.alo, .int .i64 x.ahi, .int .i64 x.wlo, .int .i64 x.whi] 28)).alloc (.cells #[.int .i64 m.day, .int .i64 m.vlo, .int .i64 m.vhi, .int .i64 m.slo, .int .i64 m.shi] 44)).alloc (.cells #[.int .i64 m.day] 3) = W1 := ⟨_, rfl⟩
  have hBc : Below w.heap.size w W1 := by rw [← hW1]; exact (((below_alloc _ _).alloc (by simp) _).alloc (by simp <;> omega) _).alloc (by simp <;> omega) _
  have zc0 : W1.heap[w.heap.size]? = some (.cells #[.int .i64 C.days, .slice C.aA C.nA C.cA, .slice C.aW C.nW C.cW] 24 (0, 0)) := by rw [← hW1]; exact alloc_keep (alloc_keep (alloc_keep (alloc_at rfl)))
  have zc1 : W1.heap[w.heap.size + 1]? = some (.cells #[.int .i64 x.day, .int .i64 x.alo, .int .i64 x.ahi, .int .i64 x.wlo, .int .i64 x.whi] 28 (0, 0)) := by rw [← hW1]; exact alloc_keep (alloc_keep (alloc_at (by simp)))
  have zc2 : W1.heap[w.heap.size + 1 + 1]? = some (.cells #[.int .i64 m.day, .int .i64 m.vlo, .int .i64 m.vhi, .int .i64 m.slo, .int .i64 m.shi] 44 (0, 0)) := by rw [← hW1]; exact alloc_keep (alloc_at (by simp <;> omega))
  have zc3 : W1.heap[w.heap.size + 1 + 1 + 1]? = some (.cells #[.int .i64 m.day] 3 (0, 0)) := by rw [← hW1]; exact alloc_at (by simp <;> omega)
  have c00 : W1.cell? ⟨w.heap.size, 0, none⟩ = some (.int .i64 C.days) := cell_of_block zc0 0 (by simp)
  have c01 : W1.cell? ⟨w.heap.size, 1, none⟩ = some (.slice C.aA C.nA C.cA) := cell_of_block zc0 1 (by simp)
  have c02 : W1.cell? ⟨w.heap.size, 2, none⟩ = some (.slice C.aW C.nW C.cW) := cell_of_block zc0 2 (by simp)
  have c10 : W1.cell? ⟨w.heap.size + 1, 0, none⟩ = some (.int .i64 x.day) := cell_of_block zc1 0 (by simp)
  have c11 : W1.cell? ⟨w.heap.size + 1, 1, none⟩ = some (.int .i64 x.alo) := cell_of_block zc1 1 (by simp)
  have c12 : W1.cell? ⟨w.heap.size + 1, 2, none⟩ = some (.int .i64 x.ahi) := cell_of_block zc1 2 (by simp)
  have c13 : W1.cell? ⟨w.heap.size + 1, 3, none⟩ = some (.int .i64 x.wlo) := cell_of_block zc1 3 (by simp)
  have c14 : W1.cell? ⟨w.heap.size + 1, 4, none⟩ = some (.int .i64 x.whi) := cell_of_block zc1 4 (by simp)
  have c20 : W1.cell? ⟨w.heap.size + 1 + 1, 0, none⟩ = some (.int .i64 m.day) := cell_of_block zc2 0 (by simp)
  have c21 : W1.cell? ⟨w.heap.size + 1 + 1, 1, none⟩ = some (.int .i64 m.vlo) := cell_of_block zc2 1 (by simp)
  have c22 : W1.cell? ⟨w.heap.size + 1 + 1, 2, none⟩ = some (.int .i64 m.vhi) := cell_of_block zc2 2 (by simp)
  have c23 : W1.cell? ⟨w.heap.size + 1 + 1, 3, none⟩ = some (.int .i64 m.slo) := cell_of_block zc2 3 (by simp)
  have c24 : W1.cell? ⟨w.heap.size + 1 + 1, 4, none⟩ = some (.int .i64 m.shi) := cell_of_block zc2 4 (by simp)
  have c30 : W1.cell? ⟨w.heap.size + 1 + 1 + 1, 0, none⟩ = some (.int .i64 m.day) := cell_of_block zc3 0 (by simp)
  have lc0 := (Array.getElem?_eq_some_iff.1 zc0).1
  have lc1 := (Array.getElem?_eq_some_iff.1 zc1).1
  have lc2 := (Array.getElem?_eq_some_iff.1 zc2).1
  have lc3 := (Array.getElem?_eq_some_iff.1 zc3).1
  have Zc0 := Lib.hid zc0
  have Zc1 := Lib.hid zc1
  have Zc2 := Lib.hid zc2
  clear zc0 zc1 zc2 zc3
  have HBc := Lib.hid hBc; clear hBc
  have HWc := Lib.hid hW1; clear hW1
  have GR := great_any C x aS k cS (some ⟨w.heap.size + 1 + 1 + 1, 0, none⟩) 1 1 (fun _ => m.day) W1 (hC.below HBc.out) hl (ints_one lc3 c30) (by omega)
  have HC := Lib.hid (hC.below HBc.out); clear hC
  have HS := Lib.hid (hS.below HBc.out); clear hS
  unfold Cont.val at GR
  have GR' := Lib.hid GR; clear GR c30
  go_enter Try.func4, Try.ntmps4
  go_wp2_with fail
  rw [HWc.out]
  go_wp2_with fail
  refine GR'.out.mono ?_
  rintro e w1 ⟨b, rfl, hg, hb⟩
  obtain ⟨z1, rfl⟩ := gw_of_below hb
  clear hb
  cases b with
  | true =>
    clear hg
    go_wp2_with fail
    refine (Calls.gw_of (alive_any _)).mono ?_
    rintro e w1 ⟨rfl, z2, rfl⟩
    go_wp2_with fail
    go_ret
    exact ⟨rfl, HBc.out.gw z2⟩
  | false =>
    have gd := hg rfl
    have hk : k ≤ 1000000000000000 := by have := gd.st; omega
    have ME := fun W (hb : Below W1.heap.size W1 W) => Measure_any C x aS k cS F G m W (HC.out.below hb) gd.fits hk (HS.out.below hb)
    have RM := fun W (hb : Below W1.heap.size W1 W) => rMeasure_any C x aS k cS F G m W (HC.out.below hb) gd.fits hk (HS.out.below hb)
    have SH := fun W (hb : Below W1.heap.size W1 W) => Shows_any C x aS k cS F G m W (HC.out.below hb) gd.fits hk (HS.out.below hb)
    have RS := fun W (hb : Below W1.heap.size W1 W) => rShows_any C x aS k cS F G m W (HC.out.below hb) gd.fits hk (HS.out.below hb)
    clear hg gd hk
    generalize measV C x k F G m = V at *
    generalize measF C x k F G m = E at *
    generalize showV C x k F G m = n at *
    generalize measE C x k F G m = E2 at *
    unfold Cont.val Reg.val at ME RM SH RS
    have ME' := Lib.hid ME; clear ME
    have RM' := Lib.hid RM; clear RM
    have SH' := Lib.hid SH; clear SH
    have RS' := Lib.hid RS; clear RS
    go_wp2_with fail
    refine (Calls.gw_of (ME'.out _ (below_gw W1 z1))).mono ?_
    rintro e w1 ⟨rfl, z2, rfl⟩
    go_upto_region 4 with (fail)
    obtain ⟨W2, hW2⟩ : ∃ W2, ((gw W1 z2)).alloc (.cells #[.int .i64 V.day, .int .i64 V.alo, .int .i64 V.ahi, .int .i64 V.wlo, .int .i64 V.whi] 28) = W2 := ⟨_, rfl⟩
    have hbW2 : Below W1.heap.size W1 W2 := by rw [← hW2]; exact (below_gw W1 z2).alloc (by simp [gw_size]) _
    have ZcW2 := Lib.hid ((hbW2.block _ (Array.getElem?_eq_some_iff.1 Zc0.out).1).trans Zc0.out)
    have ZxW2 := Lib.hid ((hbW2.block _ (Array.getElem?_eq_some_iff.1 Zc1.out).1).trans Zc1.out)
    have ZmW2 := Lib.hid ((hbW2.block _ (Array.getElem?_eq_some_iff.1 Zc2.out).1).trans Zc2.out)
    have zaW2 : W2.heap[W1.heap.size + z2.bs.size]? = some (.cells #[.int .i64 V.day, .int .i64 V.alo, .int .i64 V.ahi, .int .i64 V.wlo, .int .i64 V.whi] 28 (0, 0)) := by rw [← hW2]; exact alloc_at (by simp [gw_size])
    have ZaW2 := Lib.hid zaW2; clear zaW2
    have HBW2 := Lib.hid (thru hbW2 HBc.out)
    have SBW2 := Lib.hid hbW2; clear hbW2
    have HWW2 := Lib.hid hW2; clear hW2
    rw [HWW2.out]
    clear c00 c01 c02 c10 c11 c12 c13 c14 c20 c21 c22 c23 c24
    have ec0W2 : W2.cell? ⟨w.heap.size, 0, none⟩ = some (.int .i64 C.days) := cell_of_block ZcW2.out 0 (by simp)
    have ec1W2 : W2.cell? ⟨w.heap.size, 1, none⟩ = some (.slice C.aA C.nA C.cA) := cell_of_block ZcW2.out 1 (by simp)
    have ec2W2 : W2.cell? ⟨w.heap.size, 2, none⟩ = some (.slice C.aW C.nW C.cW) := cell_of_block ZcW2.out 2 (by simp)
    have lcW2 := (Array.getElem?_eq_some_iff.1 ZcW2.out).1
    have ex0W2 : W2.cell? ⟨w.heap.size + 1, 0, none⟩ = some (.int .i64 x.day) := cell_of_block ZxW2.out 0 (by simp)
    have ex1W2 : W2.cell? ⟨w.heap.size + 1, 1, none⟩ = some (.int .i64 x.alo) := cell_of_block ZxW2.out 1 (by simp)
    have ex2W2 : W2.cell? ⟨w.heap.size + 1, 2, none⟩ = some (.int .i64 x.ahi) := cell_of_block ZxW2.out 2 (by simp)
    have ex3W2 : W2.cell? ⟨w.heap.size + 1, 3, none⟩ = some (.int .i64 x.wlo) := cell_of_block ZxW2.out 3 (by simp)
    have ex4W2 : W2.cell? ⟨w.heap.size + 1, 4, none⟩ = some (.int .i64 x.whi) := cell_of_block ZxW2.out 4 (by simp)
    have lxW2 := (Array.getElem?_eq_some_iff.1 ZxW2.out).1
    have em0W2 : W2.cell? ⟨w.heap.size + 1 + 1, 0, none⟩ = some (.int .i64 m.day) := cell_of_block ZmW2.out 0 (by simp)
    have em1W2 : W2.cell? ⟨w.heap.size + 1 + 1, 1, none⟩ = some (.int .i64 m.vlo) := cell_of_block ZmW2.out 1 (by simp)
    have em2W2 : W2.cell? ⟨w.heap.size + 1 + 1, 2, none⟩ = some (.int .i64 m.vhi) := cell_of_block ZmW2.out 2 (by simp)
    have em3W2 : W2.cell? ⟨w.heap.size + 1 + 1, 3, none⟩ = some (.int .i64 m.slo) := cell_of_block ZmW2.out 3 (by simp)
    have em4W2 : W2.cell? ⟨w.heap.size + 1 + 1, 4, none⟩ = some (.int .i64 m.shi) := cell_of_block ZmW2.out 4 (by simp)
    have lmW2 := (Array.getElem?_eq_some_iff.1 ZmW2.out).1
    have S2 := Lib.hid SBW2.out
    go_wp2_with fail
    refine (Calls.grown (RM'.out _ S2.out)).mono ?_
    rintro e w1 ⟨rfl, z3, rfl⟩
    go_upto_region 5 with (fail)
    obtain ⟨W3, hW3⟩ : ∃ W3, ((gw W2 z3)).alloc (.cells #[.int .i64 V.day, .int .i64 V.alo, .int .i64 V.ahi, .int .i64 V.wlo, .int .i64 V.whi] 28) = W3 := ⟨_, rfl⟩
    have hbW3 : Below W2.heap.size W2 W3 := by rw [← hW3]; exact (below_gw W2 z3).alloc (by simp [gw_size]) _
    have ZcW3 := Lib.hid ((hbW3.block _ (Array.getElem?_eq_some_iff.1 ZcW2.out).1).trans ZcW2.out)
    have ZxW3 := Lib.hid ((hbW3.block _ (Array.getElem?_eq_some_iff.1 ZxW2.out).1).trans ZxW2.out)
    have ZmW3 := Lib.hid ((hbW3.block _ (Array.getElem?_eq_some_iff.1 ZmW2.out).1).trans ZmW2.out)
    have ZaW3 := Lib.hid ((hbW3.block _ (Array.getElem?_eq_some_iff.1 ZaW2.out).1).trans ZaW2.out)
    have zbW3 : W3.heap[W2.heap.size + z3.bs.size]? = some (.cells #[.int .i64 V.day, .int .i64 V.alo, .int .i64 V.ahi, .int .i64 V.wlo, .int .i64 V.whi] 28 (0, 0)) := by rw [← hW3]; exact alloc_at (by simp [gw_size])
    have ZbW3 := Lib.hid zbW3; clear zbW3
    have HBW3 := Lib.hid (thru hbW3 HBW2.out)
    have SBW3 := Lib.hid hbW3; clear hbW3
    have HWW3 := Lib.hid hW3; clear hW3
    rw [HWW3.out]
    clear ec0W2 ec1W2 ec2W2 ex0W2 ex1W2 ex2W2 ex3W2 ex4W2 em0W2 em1W2 em2W2 em3W2 em4W2
    have ec0W3 : W3.cell? ⟨w.heap.size, 0, none⟩ = some (.int .i64 C.days) := cell_of_block ZcW3.out 0 (by simp)
    have ec1W3 : W3.cell? ⟨w.heap.size, 1, none⟩ = some (.slice C.aA C.nA C.cA) := cell_of_block ZcW3.out 1 (by simp)
    have ec2W3 : W3.cell? ⟨w.heap.size, 2, none⟩ = some (.slice C.aW C.nW C.cW) := cell_of_block ZcW3.out 2 (by simp)
    have lcW3 := (Array.getElem?_eq_some_iff.1 ZcW3.out).1
    have ex0W3 : W3.cell? ⟨w.heap.size + 1, 0, none⟩ = some (.int .i64 x.day) := cell_of_block ZxW3.out 0 (by simp)
    have ex1W3 : W3.cell? ⟨w.heap.size + 1, 1, none⟩ = some (.int .i64 x.alo) := cell_of_block ZxW3.out 1 (by simp)
    have ex2W3 : W3.cell? ⟨w.heap.size + 1, 2, none⟩ = some (.int .i64 x.ahi) := cell_of_block ZxW3.out 2 (by simp)
    have ex3W3 : W3.cell? ⟨w.heap.size + 1, 3, none⟩ = some (.int .i64 x.wlo) := cell_of_block ZxW3.out 3 (by simp)
    have ex4W3 : W3.cell? ⟨w.heap.size + 1, 4, none⟩ = some (.int .i64 x.whi) := cell_of_block ZxW3.out 4 (by simp)
    have lxW3 := (Array.getElem?_eq_some_iff.1 ZxW3.out).1
    have em0W3 : W3.cell? ⟨w.heap.size + 1 + 1, 0, none⟩ = some (.int .i64 m.day) := cell_of_block ZmW3.out 0 (by simp)
    have em1W3 : W3.cell? ⟨w.heap.size + 1 + 1, 1, none⟩ = some (.int .i64 m.vlo) := cell_of_block ZmW3.out 1 (by simp)
    have em2W3 : W3.cell? ⟨w.heap.size + 1 + 1, 2, none⟩ = some (.int .i64 m.vhi) := cell_of_block ZmW3.out 2 (by simp)
    have em3W3 : W3.cell? ⟨w.heap.size + 1 + 1, 3, none⟩ = some (.int .i64 m.slo) := cell_of_block ZmW3.out 3 (by simp)
    have em4W3 : W3.cell? ⟨w.heap.size + 1 + 1, 4, none⟩ = some (.int .i64 m.shi) := cell_of_block ZmW3.out 4 (by simp)
    have lmW3 := (Array.getElem?_eq_some_iff.1 ZmW3.out).1
    have ea0W3 : W3.cell? ⟨W1.heap.size + z2.bs.size, 0, none⟩ = some (.int .i64 V.day) := cell_of_block ZaW3.out 0 (by simp)
    have ea1W3 : W3.cell? ⟨W1.heap.size + z2.bs.size, 1, none⟩ = some (.int .i64 V.alo) := cell_of_block ZaW3.out 1 (by simp)
    have ea2W3 : W3.cell? ⟨W1.heap.size + z2.bs.size, 2, none⟩ = some (.int .i64 V.ahi) := cell_of_block ZaW3.out 2 (by simp)
    have ea3W3 : W3.cell? ⟨W1.heap.size + z2.bs.size, 3, none⟩ = some (.int .i64 V.wlo) := cell_of_block ZaW3.out 3 (by simp)
    have ea4W3 : W3.cell? ⟨W1.heap.size + z2.bs.size, 4, none⟩ = some (.int .i64 V.whi) := cell_of_block ZaW3.out 4 (by simp)
    have laW3 := (Array.getElem?_eq_some_iff.1 ZaW3.out).1
    have eb0W3 : W3.cell? ⟨W2.heap.size + z3.bs.size, 0, none⟩ = some (.int .i64 V.day) := cell_of_block ZbW3.out 0 (by simp)
    have eb1W3 : W3.cell? ⟨W2.heap.size + z3.bs.size, 1, none⟩ = some (.int .i64 V.alo) := cell_of_block ZbW3.out 1 (by simp)
    have eb2W3 : W3.cell? ⟨W2.heap.size + z3.bs.size, 2, none⟩ = some (.int .i64 V.ahi) := cell_of_block ZbW3.out 2 (by simp)
    have eb3W3 : W3.cell? ⟨W2.heap.size + z3.bs.size, 3, none⟩ = some (.int .i64 V.wlo) := cell_of_block ZbW3.out 3 (by simp)
    have eb4W3 : W3.cell? ⟨W2.heap.size + z3.bs.size, 4, none⟩ = some (.int .i64 V.whi) := cell_of_block ZbW3.out 4 (by simp)
    have lbW3 := (Array.getElem?_eq_some_iff.1 ZbW3.out).1
    have S3 := Lib.hid (S2.out.trans (SBW3.out.mono S2.out.size))
    go_wp2_with fail
    refine (Calls.grown (SH'.out _ S3.out)).mono ?_
    rintro e w1 ⟨rfl, z4, rfl⟩
    go_wp2_with fail
    refine (Calls.gw_of (RS'.out _ (S3.out.trans ((below_gw W3 z4).mono S3.out.size)))).mono ?_
    rintro e w1 ⟨rfl, z5, rfl⟩
    go_wp2_with fail
    refine (Calls.gw_of (alive_any _)).mono ?_
    rintro e w1 ⟨rfl, z6, rfl⟩
    go_wp2_with fail
    go_ret
    exact ⟨rfl, HBW3.out.gw z6⟩
end Go.Proofs.Ytljofnmgddfljaa
