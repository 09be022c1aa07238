/- WashNarrower walked: it returns true. No conditions beyond each theorem's own. -/
import Derived.Test.YtecbacbecopbeaaCh
import Derived.Test.YtecbacbecopbeaaAp
import Derived.Test.YtecbacbecopbeaaEe
import Derived.Test.YtecbacbecopbeaaBq
import Derived.Test.YtecbacbecopbeaaBy
set_option linter.unusedVariables false
set_option linter.unusedSimpArgs false
set_option linter.unusedSectionVars false
set_option linter.constructorNameAsVariable false
namespace Go.Proofs.Ytecbacbecopbeaa
open Go.RowKit

attribute [local go_sem] gw_cell gw_frozen gw_size keepW_cell

theorem noPanic_now {Q : Exit → Act → World → Prop} {a : Act} {w : World} (h : Q .normal a w) : noPanic Q .normal a w := h
theorem infoYst : (Try.prog.info? 36).map (fun i => (i.zero, i.size)) = some (some (.agg #[.slice none 0 0, .slice none 0 0, .int .i64 0, .int .i64 0, .int .i64 0, .int .i64 0, .int .i64 0, .int .i64 0]), 8) := by kernel_rfl
theorem infoSP : (Try.prog.info? 23).map (fun i => (i.zero, i.size, i.bytes)) = some (some (.agg #[.int .i64 0, .int .i64 0]), 2, 16) := by kernel_rfl

set_option maxRecDepth 100000 in
set_option maxHeartbeats 32000000 in
theorem narrower_any (y : Yst) (v : Vat) (aS : Option Addr) (k cS : Nat) (F G : Nat → Int) (aB : Option Addr) (nB cB : Nat) (U : Nat → Int) (w : World) (hI : y.In w) (hf : y.Fits) (hS : SpansAt w aS k F G) (hk : k ≤ 9223372036854775807)
    (hU : NumsAt .u32 w aB nB U) (hu : ∀ i, i < nB → 0 ≤ U i ∧ U i ≤ 4294967295) (hm : nB ≤ 9223372036854775807) :
    Calls Try.prog 5 #[y.val, v.val, .slice aS k cS, .slice aB nB cB] w (True1 w) := by
  unfold Yst.val Vat.val
  obtain ⟨W1, hW1⟩ : ∃ W1, ((w.alloc (.cells #[.slice y.aT y.nT y.cT, .slice y.aR y.nR y.cR, .int .i64 y.sl, .int .i64 y.sh, .int .i64 y.gl, .int .i64 y.gh, .int .i64 y.hl, .int .i64 y.hh] 36)).alloc (.cells #[.int .i64 v.sl, .int .i64 v.sh, .int .i64 v.el, .int .i64 v.eh, .int .i64 v.pl, .int .i64 v.ph, .int .i64 v.gl, .int .i64 v.gh, .int .i64 v.ol, .int .i64 v.oh, .int .i64 v.tl, .int .i64 v.th, .int .i64 v.c] 38)).alloc (.cells #[.slice aB nB cB] 39) = W1 := ⟨_, rfl⟩
  have hBc : Below w.heap.size w W1 := by rw [← hW1]; exact ((below_alloc _ _).alloc (by simp) _).alloc (by simp <;> omega) _
  have zc0 : W1.heap[w.heap.size]? = some (.cells #[.slice y.aT y.nT y.cT, .slice y.aR y.nR y.cR, .int .i64 y.sl, .int .i64 y.sh, .int .i64 y.gl, .int .i64 y.gh, .int .i64 y.hl, .int .i64 y.hh] 36 (0, 0)) := by rw [← hW1]; exact alloc_keep (alloc_keep (alloc_at rfl))
  have zc1 : W1.heap[w.heap.size + 1]? = some (.cells #[.int .i64 v.sl, .int .i64 v.sh, .int .i64 v.el, .int .i64 v.eh, .int .i64 v.pl, .int .i64 v.ph, .int .i64 v.gl, .int .i64 v.gh, .int .i64 v.ol, .int .i64 v.oh, .int .i64 v.tl, .int .i64 v.th, .int .i64 v.c] 38 (0, 0)) := by rw [← hW1]; exact alloc_keep (alloc_at (by simp))
  have zc2 : W1.heap[w.heap.size + 1 + 1]? = some (.cells #[.slice aB nB cB] 39 (0, 0)) := by rw [← hW1]; exact alloc_at (by simp <;> omega)
  have c00 : W1.cell? ⟨w.heap.size, 0, none⟩ = some (.slice y.aT y.nT y.cT) := cell_of_block zc0 0 (by simp)
  have c01 : W1.cell? ⟨w.heap.size, 1, none⟩ = some (.slice y.aR y.nR y.cR) := cell_of_block zc0 1 (by simp)
  have c02 : W1.cell? ⟨w.heap.size, 2, none⟩ = some (.int .i64 y.sl) := cell_of_block zc0 2 (by simp)
  have c03 : W1.cell? ⟨w.heap.size, 3, none⟩ = some (.int .i64 y.sh) := cell_of_block zc0 3 (by simp)
  have c04 : W1.cell? ⟨w.heap.size, 4, none⟩ = some (.int .i64 y.gl) := cell_of_block zc0 4 (by simp)
  have c05 : W1.cell? ⟨w.heap.size, 5, none⟩ = some (.int .i64 y.gh) := cell_of_block zc0 5 (by simp)
  have c06 : W1.cell? ⟨w.heap.size, 6, none⟩ = some (.int .i64 y.hl) := cell_of_block zc0 6 (by simp)
  have c07 : W1.cell? ⟨w.heap.size, 7, none⟩ = some (.int .i64 y.hh) := cell_of_block zc0 7 (by simp)
  have c10 : W1.cell? ⟨w.heap.size + 1, 0, none⟩ = some (.int .i64 v.sl) := cell_of_block zc1 0 (by simp)
  have c11 : W1.cell? ⟨w.heap.size + 1, 1, none⟩ = some (.int .i64 v.sh) := cell_of_block zc1 1 (by simp)
  have c12 : W1.cell? ⟨w.heap.size + 1, 2, none⟩ = some (.int .i64 v.el) := cell_of_block zc1 2 (by simp)
  have c13 : W1.cell? ⟨w.heap.size + 1, 3, none⟩ = some (.int .i64 v.eh) := cell_of_block zc1 3 (by simp)
  have c14 : W1.cell? ⟨w.heap.size + 1, 4, none⟩ = some (.int .i64 v.pl) := cell_of_block zc1 4 (by simp)
  have c15 : W1.cell? ⟨w.heap.size + 1, 5, none⟩ = some (.int .i64 v.ph) := cell_of_block zc1 5 (by simp)
  have c16 : W1.cell? ⟨w.heap.size + 1, 6, none⟩ = some (.int .i64 v.gl) := cell_of_block zc1 6 (by simp)
  have c17 : W1.cell? ⟨w.heap.size + 1, 7, none⟩ = some (.int .i64 v.gh) := cell_of_block zc1 7 (by simp)
  have c18 : W1.cell? ⟨w.heap.size + 1, 8, none⟩ = some (.int .i64 v.ol) := cell_of_block zc1 8 (by simp)
  have c19 : W1.cell? ⟨w.heap.size + 1, 9, none⟩ = some (.int .i64 v.oh) := cell_of_block zc1 9 (by simp)
  have c110 : W1.cell? ⟨w.heap.size + 1, 10, none⟩ = some (.int .i64 v.tl) := cell_of_block zc1 10 (by simp)
  have c111 : W1.cell? ⟨w.heap.size + 1, 11, none⟩ = some (.int .i64 v.th) := cell_of_block zc1 11 (by simp)
  have c112 : W1.cell? ⟨w.heap.size + 1, 12, none⟩ = some (.int .i64 v.c) := cell_of_block zc1 12 (by simp)
  have c20 : W1.cell? ⟨w.heap.size + 1 + 1, 0, none⟩ = some (.slice aB nB cB) := cell_of_block zc2 0 (by simp)
  have lc0 := (Array.getElem?_eq_some_iff.1 zc0).1
  have lc1 := (Array.getElem?_eq_some_iff.1 zc1).1
  have lc2 := (Array.getElem?_eq_some_iff.1 zc2).1
  have Zc0 := Lib.hid zc0
  have Zc1 := Lib.hid zc1
  have Zc2 := Lib.hid zc2
  clear zc0 zc1 zc2
  have HBc := Lib.hid hBc; clear hBc
  have HWc := Lib.hid hW1; clear hW1
  have FER := fun W (hb : Below W1.heap.size W1 W) => (Ferment_any aS k cS F G y v W ((hI.below HBc.out).below hb) hf ((hS.below HBc.out).below hb) hk).mono (fun _ _ h => fer_list h)
  unfold Yst.val Vat.val at FER
  have FER' := Lib.hid FER; clear FER
  have YB := Lib.hid (fun W (hb : Below W1.heap.size W1 W) (h : ystB y = true) => rYeast_b y W ((hI.below HBc.out).below hb) hf h)
  unfold Yst.val at YB
  have VB := Lib.hid (fun W (h : vatB v = true) => rVat_b v W h)
  unfold Vat.val at VB
  have HI := Lib.hid (hI.below HBc.out); have HS := Lib.hid (hS.below HBc.out); have HU := Lib.hid (hU.below HBc.out); have HV := Lib.hid hu; clear hI hS hU hu
  by_cases n1 : 20 < y.nT
  · skip
    go_enter Try.func5, Try.ntmps5
    go_upto_region 1 with (fail)
    rw [HWc.out]
    go_wp2_with fail
    refine (Calls.grown (alive_any _)).mono ?_
    rintro e w1 ⟨rfl, z1, rfl⟩
    go_wp2_with fail
    go_ret
    exact ⟨rfl, HBc.out.gw z1⟩
  by_cases n2 : 21 < y.nR
  · skip
    go_enter Try.func5, Try.ntmps5
    go_upto_region 1 with (fail)
    rw [HWc.out]
    go_wp2_with fail
    refine (Calls.grown (alive_any _)).mono ?_
    rintro e w1 ⟨rfl, z1, rfl⟩
    go_wp2_with fail
    go_ret
    exact ⟨rfl, HBc.out.gw z1⟩
  by_cases n3 : 30 < k
  · skip
    go_enter Try.func5, Try.ntmps5
    go_upto_region 1 with (fail)
    rw [HWc.out]
    go_wp2_with fail
    refine (Calls.grown (alive_any _)).mono ?_
    rintro e w1 ⟨rfl, z1, rfl⟩
    go_wp2_with fail
    go_ret
    exact ⟨rfl, HBc.out.gw z1⟩
  by_cases n4 : nB = 0
  · subst n4
    go_enter Try.func5, Try.ntmps5
    go_upto_region 1 with (fail)
    rw [HWc.out]
    go_wp2_with fail
    refine (Calls.grown (alive_any _)).mono ?_
    rintro e w1 ⟨rfl, z1, rfl⟩
    go_wp2_with fail
    go_ret
    exact ⟨rfl, HBc.out.gw z1⟩
  have n5 : ((nB : Int) == 0) = false := by simp; omega
  go_enter Try.func5, Try.ntmps5
  go_upto_region 1 with (fail)
  rw [HWc.out]
  go_wp2_with fail
  refine (FER'.out _ (Below.refl _ _)).mono ?_
  rintro e u1 ⟨al, cl, rfl, hL, hb⟩
  have HU1 := Lib.hid hb; clear hb c00 c01 c02 c03 c04 c05 c06 c07 c10 c11 c12 c13 c14 c15 c16 c17 c18 c19 c110 c111 c112 c20
  have SBu1 := Lib.hid (HU1.out)
  have Zyu1 := Lib.hid ((SBu1.out.block _ (Array.getElem?_eq_some_iff.1 Zc0.out).1).trans Zc0.out)
  have Zvu1 := Lib.hid ((SBu1.out.block _ (Array.getElem?_eq_some_iff.1 Zc1.out).1).trans Zc1.out)
  have Zbu1 := Lib.hid ((SBu1.out.block _ (Array.getElem?_eq_some_iff.1 Zc2.out).1).trans Zc2.out)
  have HBu1 := Lib.hid (thru SBu1.out HBc.out)
  have zsu1 := SBu1.out.size
  have ey0u1 : u1.cell? ⟨w.heap.size, 0, none⟩ = some (.slice y.aT y.nT y.cT) := cell_of_block Zyu1.out 0 (by simp)
  have ey1u1 : u1.cell? ⟨w.heap.size, 1, none⟩ = some (.slice y.aR y.nR y.cR) := cell_of_block Zyu1.out 1 (by simp)
  have ey2u1 : u1.cell? ⟨w.heap.size, 2, none⟩ = some (.int .i64 y.sl) := cell_of_block Zyu1.out 2 (by simp)
  have ey3u1 : u1.cell? ⟨w.heap.size, 3, none⟩ = some (.int .i64 y.sh) := cell_of_block Zyu1.out 3 (by simp)
  have ey4u1 : u1.cell? ⟨w.heap.size, 4, none⟩ = some (.int .i64 y.gl) := cell_of_block Zyu1.out 4 (by simp)
  have ey5u1 : u1.cell? ⟨w.heap.size, 5, none⟩ = some (.int .i64 y.gh) := cell_of_block Zyu1.out 5 (by simp)
  have ey6u1 : u1.cell? ⟨w.heap.size, 6, none⟩ = some (.int .i64 y.hl) := cell_of_block Zyu1.out 6 (by simp)
  have ey7u1 : u1.cell? ⟨w.heap.size, 7, none⟩ = some (.int .i64 y.hh) := cell_of_block Zyu1.out 7 (by simp)
  have lyu1 := (Array.getElem?_eq_some_iff.1 Zyu1.out).1
  have ev0u1 : u1.cell? ⟨w.heap.size + 1, 0, none⟩ = some (.int .i64 v.sl) := cell_of_block Zvu1.out 0 (by simp)
  have ev1u1 : u1.cell? ⟨w.heap.size + 1, 1, none⟩ = some (.int .i64 v.sh) := cell_of_block Zvu1.out 1 (by simp)
  have ev2u1 : u1.cell? ⟨w.heap.size + 1, 2, none⟩ = some (.int .i64 v.el) := cell_of_block Zvu1.out 2 (by simp)
  have ev3u1 : u1.cell? ⟨w.heap.size + 1, 3, none⟩ = some (.int .i64 v.eh) := cell_of_block Zvu1.out 3 (by simp)
  have ev4u1 : u1.cell? ⟨w.heap.size + 1, 4, none⟩ = some (.int .i64 v.pl) := cell_of_block Zvu1.out 4 (by simp)
  have ev5u1 : u1.cell? ⟨w.heap.size + 1, 5, none⟩ = some (.int .i64 v.ph) := cell_of_block Zvu1.out 5 (by simp)
  have ev6u1 : u1.cell? ⟨w.heap.size + 1, 6, none⟩ = some (.int .i64 v.gl) := cell_of_block Zvu1.out 6 (by simp)
  have ev7u1 : u1.cell? ⟨w.heap.size + 1, 7, none⟩ = some (.int .i64 v.gh) := cell_of_block Zvu1.out 7 (by simp)
  have ev8u1 : u1.cell? ⟨w.heap.size + 1, 8, none⟩ = some (.int .i64 v.ol) := cell_of_block Zvu1.out 8 (by simp)
  have ev9u1 : u1.cell? ⟨w.heap.size + 1, 9, none⟩ = some (.int .i64 v.oh) := cell_of_block Zvu1.out 9 (by simp)
  have ev10u1 : u1.cell? ⟨w.heap.size + 1, 10, none⟩ = some (.int .i64 v.tl) := cell_of_block Zvu1.out 10 (by simp)
  have ev11u1 : u1.cell? ⟨w.heap.size + 1, 11, none⟩ = some (.int .i64 v.th) := cell_of_block Zvu1.out 11 (by simp)
  have ev12u1 : u1.cell? ⟨w.heap.size + 1, 12, none⟩ = some (.int .i64 v.c) := cell_of_block Zvu1.out 12 (by simp)
  have lvu1 := (Array.getElem?_eq_some_iff.1 Zvu1.out).1
  have eb0u1 : u1.cell? ⟨w.heap.size + 1 + 1, 0, none⟩ = some (.slice aB nB cB) := cell_of_block Zbu1.out 0 (by simp)
  have lbu1 := (Array.getElem?_eq_some_iff.1 Zbu1.out).1
  by_cases hE : ferE y v k F G = 0
  rotate_left
  · obtain ⟨E, hEE⟩ : ∃ E, ferE y v k F G = E := ⟨_, rfl⟩
    clear hL
    rw [hEE] at hE ⊢
    have ne : (E != 0) = true := by simpa using hE
    clear hE hEE
    go_wp2_with fail
    refine (Calls.grown (alive_any _)).mono ?_
    rintro e w1 ⟨rfl, z1, rfl⟩
    go_wp2_with fail
    go_ret
    exact ⟨rfl, HBu1.out.gw z1⟩
  have hN : ferN y v k F G = k := if_pos hE
  rw [hN] at hL ⊢
  rw [hE]
  obtain ⟨q1, hy, hv, hC, hV⟩ := ferE_zero hE
  have HL := Lib.hid hL; have HY := Lib.hid hy; have HVV := Lib.hid hv; have E0 := Lib.hid hE; have HCC := Lib.hid hC; clear hL hN hE hV hy hv hC q1
  go_wp2_with fail
  refine (Calls.grown (YB.out _ SBu1.out HY.out)).mono ?_
  rintro e w1 ⟨rfl, z1, rfl⟩
  go_wp2_with fail
  refine (Calls.gw_of (VB.out _ HVV.out)).mono ?_
  rintro e w1 ⟨rfl, z2, rfl⟩
  go_upto_region 6 with (fail)
  obtain ⟨W2, hW2⟩ : ∃ W2, gw u1 z2 = W2 := ⟨_, rfl⟩
  have hbW2 : Below u1.heap.size u1 W2 := by rw [← hW2]; exact below_gw u1 z2
  have ZyW2 := Lib.hid ((hbW2.block _ (Array.getElem?_eq_some_iff.1 Zyu1.out).1).trans Zyu1.out)
  have ZvW2 := Lib.hid ((hbW2.block _ (Array.getElem?_eq_some_iff.1 Zvu1.out).1).trans Zvu1.out)
  have ZbW2 := Lib.hid ((hbW2.block _ (Array.getElem?_eq_some_iff.1 Zbu1.out).1).trans Zbu1.out)
  have HBW2 := Lib.hid (thru hbW2 HBu1.out)
  have SBW2 := Lib.hid hbW2; clear hbW2
  have HWW2 := Lib.hid hW2; clear hW2
  rw [HWW2.out]
  clear ey0u1 ey1u1 ey2u1 ey3u1 ey4u1 ey5u1 ey6u1 ey7u1 ev0u1 ev1u1 ev2u1 ev3u1 ev4u1 ev5u1 ev6u1 ev7u1 ev8u1 ev9u1 ev10u1 ev11u1 ev12u1 eb0u1
  have zsW2 := SBW2.out.size
  have eb0W2 : W2.cell? ⟨w.heap.size + 1 + 1, 0, none⟩ = some (.slice aB nB cB) := cell_of_block ZbW2.out 0 (by simp)
  have lbW2 := (Array.getElem?_eq_some_iff.1 ZbW2.out).1
  have SW3 := Lib.hid (thru SBW2.out SBu1.out)
  have HU3 := Lib.hid (HU.out.below SW3.out)
  have CUT := Lib.hid (fun N lo hi (hN : N ≤ 1000000) h0 h1 h2 W h => cut_any (g := W2.heap.size) (gb := w.heap.size + 1 + 1) (cB := cB) HU3.out HV.out (by omega) hm hN lo hi h0 h1 h2 W h)
  go_upto_region 8 with (fail)
  obtain ⟨W3, hW3⟩ : ∃ W3, ((W2)).alloc (.cells #[.int .i64 0] 3) = W3 := ⟨_, rfl⟩
  have hbW3 : Below W2.heap.size W2 W3 := by rw [← hW3]; exact (Below.refl _ W2).alloc (by simp [gw_size]) _
  have ZyW3 := Lib.hid ((hbW3.block _ (Array.getElem?_eq_some_iff.1 ZyW2.out).1).trans ZyW2.out)
  have ZvW3 := Lib.hid ((hbW3.block _ (Array.getElem?_eq_some_iff.1 ZvW2.out).1).trans ZvW2.out)
  have ZbW3 := Lib.hid ((hbW3.block _ (Array.getElem?_eq_some_iff.1 ZbW2.out).1).trans ZbW2.out)
  have zkW3 : W3.heap[W2.heap.size]? = some (.cells #[.int .i64 0] 3 (0, 0)) := by rw [← hW3]; exact alloc_at (by simp [gw_size])
  have ZkW3 := Lib.hid zkW3; clear zkW3
  have HBW3 := Lib.hid (thru hbW3 HBW2.out)
  have SBW3 := Lib.hid hbW3; clear hbW3
  have HWW3 := Lib.hid hW3; clear hW3
  rw [HWW3.out]
  clear eb0W2
  have zsW3 := SBW3.out.size
  have ey0W3 : W3.cell? ⟨w.heap.size, 0, none⟩ = some (.slice y.aT y.nT y.cT) := cell_of_block ZyW3.out 0 (by simp)
  have ey1W3 : W3.cell? ⟨w.heap.size, 1, none⟩ = some (.slice y.aR y.nR y.cR) := cell_of_block ZyW3.out 1 (by simp)
  have ey2W3 : W3.cell? ⟨w.heap.size, 2, none⟩ = some (.int .i64 y.sl) := cell_of_block ZyW3.out 2 (by simp)
  have ey3W3 : W3.cell? ⟨w.heap.size, 3, none⟩ = some (.int .i64 y.sh) := cell_of_block ZyW3.out 3 (by simp)
  have ey4W3 : W3.cell? ⟨w.heap.size, 4, none⟩ = some (.int .i64 y.gl) := cell_of_block ZyW3.out 4 (by simp)
  have ey5W3 : W3.cell? ⟨w.heap.size, 5, none⟩ = some (.int .i64 y.gh) := cell_of_block ZyW3.out 5 (by simp)
  have ey6W3 : W3.cell? ⟨w.heap.size, 6, none⟩ = some (.int .i64 y.hl) := cell_of_block ZyW3.out 6 (by simp)
  have ey7W3 : W3.cell? ⟨w.heap.size, 7, none⟩ = some (.int .i64 y.hh) := cell_of_block ZyW3.out 7 (by simp)
  have lyW3 := (Array.getElem?_eq_some_iff.1 ZyW3.out).1
  have K0 := Lib.hid (show KW W2 W2.heap.size (w.heap.size + 1 + 1) 0 aB nB cB W3 from ⟨SBW3.out, ⟨0, Nat.le_refl _, ZkW3.out⟩, ZbW3.out, Nat.le_refl _, by omega⟩)
  obtain ⟨⟨v1, v2, v3⟩, ⟨v4, v5, v6⟩, ⟨v7, v8, v9⟩, ⟨v10, v11, v12⟩, ⟨v18, v19, v20⟩, ⟨v13, v14, v15⟩, v16, v17⟩ := vatB_t HVV.out
  obtain ⟨⟨y10, y11⟩, -, -, y12, ⟨y1, y2, y3⟩, ⟨y4, y5, y6⟩, y7, y8, y9⟩ := ystB_t HY.out
  have ltk := K0.out.inn
  go_cut [13] (fun s13 wx => ∃ (B : Nat) (z0 z1 z2 z3 z4 z5 : Int), s13 = .pointer (some ⟨B, 0, none⟩) ∧ Hid (wx.heap[B]? = some (.cells #[.slice y.aT y.nT y.cT, .slice none 0 0, .int .i64 z0, .int .i64 z1, .int .i64 z2, .int .i64 z3, .int .i64 z4, .int .i64 z5] 36 (0, 0))) ∧ Hid (Nar z0 z1 y.sl y.sh ∧ Nar z2 z3 y.gl y.gh ∧ Nar z4 z5 y.hl y.hh) ∧ Hid (KW W2 W2.heap.size (w.heap.size + 1 + 1) 6 aB nB cB wx) ∧ Hid (W3.grownBy wx (some (W2.heap.size))) ∧ W3.heap.size ≤ B)
  case first =>
    haveI hne : Nonempty (KeepW W3 [w.heap.size]) := ⟨⟨W3, fun _ _ => rfl⟩⟩
    refine wp_region_chain (fun w' => ∃ x : KeepW W3 [w.heap.size], w' = x.w) [0, 1, 2, 3, 4, 6, 7, 8, 10, 11, 12] [5, 9, 13] 15 13 (W2.heap.size) W3.heap.size (.step [14] 15 (.step [] 16 (.last []))) (.step [14] 16 (.last [])) (by kernel_rfl) rfl infoYst rfl K0.out.inn (Nat.le_refl _) (by kernel_rfl) ?_
    rintro _ ⟨qq, rfl⟩
    obtain ⟨p101, hp101⟩ : ∃ z, gw W3 qq = z := ⟨_, rfl⟩
    have bp101 := below_gw W3 qq
    rw [hp101] at bp101 ⊢
    clear hp101 qq
    have Z0p101 := Lib.hid ((bp101.block (w.heap.size) (Array.getElem?_eq_some_iff.1 ZyW3.out).1).trans ZyW3.out)
    have Kp101 := Lib.hid (K0.out.below bp101)
    have Gp101 := Lib.hid (grownBy_of_below bp101 (some (W2.heap.size)))
    clear bp101
    refine ⟨keep1 (Z0p101.out.trans ZyW3.out.symm), ?_⟩
    simp only [pickL, List.getElem?_cons_zero, List.getElem?_cons_succ]
    repeat (go_big_quiet_step (fail))
    refine wpQuiet_nil ?_
    refine ⟨_, rfl, fun up102 p102 bp102 => ?_⟩
    have Z0p102 := Lib.hid ((bp102.block (w.heap.size) (Array.getElem?_eq_some_iff.1 Z0p101.out).1).trans Z0p101.out)
    have Kp102 := Lib.hid (Kp101.out.below bp102)
    have Gp102 := Lib.hid (grownBy_trans Gp101.out (grownBy_of_below bp102 _))
    simp only [Act.put, List.setIfInBounds_toArray, List.set_cons_succ, List.set_cons_zero]
    refine ⟨keep1 (Z0p102.out.trans ZyW3.out.symm), ?_⟩
    refine wpChain_cons ?_
    simp only [pickL, List.getElem?_cons_zero, List.getElem?_cons_succ]
    go_wp2_with fail
    rename_i KK hKK
    refine (CUT.out (0) y.sl y.sh (by omega) (by omega) (by omega) (by omega) p102 Kp102.out).mono ?_
    rintro e p103 ⟨ap103, bp103, rfl, nap103, hkp103, hgp103⟩
    refine hKK _ _ (contQ_nil ⟨rfl, hgp103, ?_⟩)
    clear hKK KK
    have Kp103 := Lib.hid hkp103; have Ap103 := Lib.hid nap103; clear hkp103 nap103
    have Z0p103 := Lib.hid ((hgp103.block (w.heap.size) (Array.getElem?_eq_some_iff.1 Z0p102.out).1 (by simp <;> omega)).trans Z0p102.out)
    have Gp103 := Lib.hid (grownBy_trans Gp102.out hgp103); clear hgp103
    intro up104 p104 bp104
    have Z0p104 := Lib.hid ((bp104.block (w.heap.size) (Array.getElem?_eq_some_iff.1 Z0p103.out).1).trans Z0p103.out)
    have Kp104 := Lib.hid (Kp103.out.below bp104)
    have Gp104 := Lib.hid (grownBy_trans Gp103.out (grownBy_of_below bp104 _))
    clear bp104
    simp only [Act.put, List.setIfInBounds_toArray, List.set_cons_succ, List.set_cons_zero]
    refine ⟨keep1 (Z0p104.out.trans ZyW3.out.symm), ?_⟩
    refine wpChain_cons ?_
    simp only [pickL, List.getElem?_cons_zero, List.getElem?_cons_succ]
    go_wp2_with fail
    rename_i KK hKK
    refine (CUT.out (0 + 2) y.gl y.gh (by omega) (by omega) (by omega) (by omega) p104 Kp104.out).mono ?_
    rintro e p105 ⟨ap105, bp105, rfl, nap105, hkp105, hgp105⟩
    refine hKK _ _ (contQ_nil ⟨rfl, hgp105, ?_⟩)
    clear hKK KK
    have Kp105 := Lib.hid hkp105; have Ap105 := Lib.hid nap105; clear hkp105 nap105
    have Z0p105 := Lib.hid ((hgp105.block (w.heap.size) (Array.getElem?_eq_some_iff.1 Z0p104.out).1 (by simp <;> omega)).trans Z0p104.out)
    have Gp105 := Lib.hid (grownBy_trans Gp104.out hgp105); clear hgp105
    intro up106 p106 bp106
    have Z0p106 := Lib.hid ((bp106.block (w.heap.size) (Array.getElem?_eq_some_iff.1 Z0p105.out).1).trans Z0p105.out)
    have Kp106 := Lib.hid (Kp105.out.below bp106)
    have Gp106 := Lib.hid (grownBy_trans Gp105.out (grownBy_of_below bp106 _))
    clear bp106
    simp only [Act.put, List.setIfInBounds_toArray, List.set_cons_succ, List.set_cons_zero]
    refine ⟨keep1 (Z0p106.out.trans ZyW3.out.symm), ?_⟩
    refine wpChain_cons ?_
    simp only [pickL, List.getElem?_cons_zero, List.getElem?_cons_succ]
    go_wp2_with fail
    rename_i KK hKK
    refine (CUT.out (0 + 2 + 2) y.hl y.hh (by omega) (by omega) (by omega) (by omega) p106 Kp106.out).mono ?_
    rintro e p107 ⟨ap107, bp107, rfl, nap107, hkp107, hgp107⟩
    refine hKK _ _ (contQ_nil ⟨rfl, hgp107, ?_⟩)
    clear hKK KK
    have Kp107 := Lib.hid hkp107; have Ap107 := Lib.hid nap107; clear hkp107 nap107
    have Z0p107 := Lib.hid ((hgp107.block (w.heap.size) (Array.getElem?_eq_some_iff.1 Z0p106.out).1 (by simp <;> omega)).trans Z0p106.out)
    have Gp107 := Lib.hid (grownBy_trans Gp106.out hgp107); clear hgp107
    intro up108 p108 bp108
    have Z0p108 := Lib.hid ((bp108.block (w.heap.size) (Array.getElem?_eq_some_iff.1 Z0p107.out).1).trans Z0p107.out)
    have Kp108 := Lib.hid (Kp107.out.below bp108)
    have Gp108 := Lib.hid (grownBy_trans Gp107.out (grownBy_of_below bp108 _))
    clear bp108
    simp only [Act.put, List.setIfInBounds_toArray, List.set_cons_succ, List.set_cons_zero]
    refine ⟨keep1 (Z0p108.out.trans ZyW3.out.symm), ?_⟩
    have ms := Gp108.out.size
    refine wpChain_nil ?_ ?_
    · skip
      refine wpPlan_step ?_
      simp only [pickL, List.getElem?_cons_zero, List.getElem?_cons_succ]
      repeat (go_big_quiet_step (fail))
      refine wpQuiet_nil ?_
      go_wp2_with fail
      obtain ⟨p109, hp109⟩ : ∃ z, p108.alloc (.cells #[.slice none 0 0, .slice none 0 0, .int .i64 0, .int .i64 0, .int .i64 0, .int .i64 0, .int .i64 0, .int .i64 0] 36) = z := ⟨_, rfl⟩
      have bp109 : Below p108.heap.size p108 p109 := by rw [← hp109]; exact below_alloc _ _
      have ZBp109 := Lib.hid (show p109.heap[p108.heap.size]? = some (.cells #[.slice none 0 0, .slice none 0 0, .int .i64 0, .int .i64 0, .int .i64 0, .int .i64 0, .int .i64 0, .int .i64 0] 36 (0, 0)) by rw [← hp109]; exact alloc_at rfl)
      have lBp109 := Kp108.out.inn
      have mBp109 := Gp108.out.size
      have Z0p109 := Lib.hid ((bp109.block (w.heap.size) (Array.getElem?_eq_some_iff.1 Z0p108.out).1).trans Z0p108.out)
      have Kp109 := Lib.hid (Kp108.out.below bp109)
      have Gp109 := Lib.hid (grownBy_trans Gp108.out (grownBy_of_below bp109 _))
      rw [hp109]
      clear hp109 bp109
      refine contQ_now ⟨keep1 (Z0p109.out.trans ZyW3.out.symm), ?_⟩
      refine wpPlan_step ?_
      simp only [pickL, List.getElem?_cons_zero, List.getElem?_cons_succ]
      repeat (go_big_quiet_step (fail))
      refine wpQuiet_nil ?_
      have e0 := cell_of_block ZBp109.out 0 (by simp)
      have f0 := frozen_of_block ZBp109.out 0
      have e1 := cell_of_block ZBp109.out 1 (by simp)
      have f1 := frozen_of_block ZBp109.out 1
      have e2 := cell_of_block ZBp109.out 2 (by simp)
      have f2 := frozen_of_block ZBp109.out 2
      have e3 := cell_of_block ZBp109.out 3 (by simp)
      have f3 := frozen_of_block ZBp109.out 3
      have e4 := cell_of_block ZBp109.out 4 (by simp)
      have f4 := frozen_of_block ZBp109.out 4
      have e5 := cell_of_block ZBp109.out 5 (by simp)
      have f5 := frozen_of_block ZBp109.out 5
      have e6 := cell_of_block ZBp109.out 6 (by simp)
      have f6 := frozen_of_block ZBp109.out 6
      have e7 := cell_of_block ZBp109.out 7 (by simp)
      have f7 := frozen_of_block ZBp109.out 7
      have lz := (Array.getElem?_eq_some_iff.1 ZBp109.out).1
      go_wp2_with fail
      obtain ⟨p110, hp110⟩ : ∃ z, ((((((((p109).setCell ⟨p108.heap.size, 0, none⟩ (.slice y.aT y.nT y.cT)).setCell ⟨p108.heap.size, 1, none⟩ (.slice none 0 0)).setCell ⟨p108.heap.size, 2, none⟩ (.int .i64 ap103)).setCell ⟨p108.heap.size, 3, none⟩ (.int .i64 bp103)).setCell ⟨p108.heap.size, 4, none⟩ (.int .i64 ap105)).setCell ⟨p108.heap.size, 5, none⟩ (.int .i64 bp105)).setCell ⟨p108.heap.size, 6, none⟩ (.int .i64 ap107)).setCell ⟨p108.heap.size, 7, none⟩ (.int .i64 bp107) = z := ⟨_, rfl⟩
      have hsp110 : setAll p109 (p108.heap.size) 0 [.slice y.aT y.nT y.cT, .slice none 0 0, .int .i64 ap103, .int .i64 bp103, .int .i64 ap105, .int .i64 bp105, .int .i64 ap107, .int .i64 bp107] = p110 := hp110
      have hgp110 : p109.grownBy p110 (some (p108.heap.size)) := by rw [← hsp110]; exact setAll_grown (p108.heap.size) [.slice y.aT y.nT y.cT, .slice none 0 0, .int .i64 ap103, .int .i64 bp103, .int .i64 ap105, .int .i64 bp105, .int .i64 ap107, .int .i64 bp107] 0 p109
      have ZBp110 := Lib.hid (show p110.heap[p108.heap.size]? = some (.cells #[.slice y.aT y.nT y.cT, .slice none 0 0, .int .i64 ap103, .int .i64 bp103, .int .i64 ap105, .int .i64 bp105, .int .i64 ap107, .int .i64 bp107] 36 (0, 0)) by rw [← hsp110]; exact set_all [.slice y.aT y.nT y.cT, .slice none 0 0, .int .i64 ap103, .int .i64 bp103, .int .i64 ap105, .int .i64 bp105, .int .i64 ap107, .int .i64 bp107] ZBp109.out rfl)
      have Z0p110 := Lib.hid ((hgp110.block (w.heap.size) (Array.getElem?_eq_some_iff.1 Z0p109.out).1 (by simp <;> omega)).trans Z0p109.out)
      have Kp110 := Lib.hid (Kp109.out.far hgp110 (by omega) (by omega) (by omega))
      have Gp110 := Lib.hid (grownBy_far Gp109.out hgp110 (by omega))
      rw [hp110]
      clear hp110 hsp110 hgp110 e0 f0 e1 f1 e2 f2 e3 f3 e4 f4 e5 f5 e6 f6 e7 f7
      refine contQ_now ⟨keep1 (Z0p110.out.trans ZyW3.out.symm), ?_⟩
      refine wpPlan_last ?_
      simp only [pickL, List.getElem?_cons_zero, List.getElem?_cons_succ]
      repeat (go_big_quiet_step (fail))
      refine wpQuiet_nil ?_
      refine contN_nil ?_
      go_wp2_with fail
      go_meet
      exact ⟨p108.heap.size, ap103, bp103, ap105, bp105, ap107, bp107, rfl, ZBp110, Lib.hid ⟨Ap103.out, Ap105.out, Ap107.out⟩, Lib.hid (Kp110.out.mono (by omega)), Gp110, by omega⟩
    · rintro BB rfl hbb lbb
      have ZBB := Lib.hid hbb; clear hbb
      refine wpPlan_step ?_
      simp only [pickL, List.getElem?_cons_zero, List.getElem?_cons_succ]
      repeat (go_big_quiet_step (fail))
      refine wpQuiet_nil ?_
      have e0 := cell_of_block ZBB.out 0 (by simp)
      have f0 := frozen_of_block ZBB.out 0
      have e1 := cell_of_block ZBB.out 1 (by simp)
      have f1 := frozen_of_block ZBB.out 1
      have e2 := cell_of_block ZBB.out 2 (by simp)
      have f2 := frozen_of_block ZBB.out 2
      have e3 := cell_of_block ZBB.out 3 (by simp)
      have f3 := frozen_of_block ZBB.out 3
      have e4 := cell_of_block ZBB.out 4 (by simp)
      have f4 := frozen_of_block ZBB.out 4
      have e5 := cell_of_block ZBB.out 5 (by simp)
      have f5 := frozen_of_block ZBB.out 5
      have e6 := cell_of_block ZBB.out 6 (by simp)
      have f6 := frozen_of_block ZBB.out 6
      have e7 := cell_of_block ZBB.out 7 (by simp)
      have f7 := frozen_of_block ZBB.out 7
      have lz := (Array.getElem?_eq_some_iff.1 ZBB.out).1
      go_wp2_with fail
      obtain ⟨p111, hp111⟩ : ∃ z, ((((((((p108).setCell ⟨BB, 0, none⟩ (.slice y.aT y.nT y.cT)).setCell ⟨BB, 1, none⟩ (.slice none 0 0)).setCell ⟨BB, 2, none⟩ (.int .i64 ap103)).setCell ⟨BB, 3, none⟩ (.int .i64 bp103)).setCell ⟨BB, 4, none⟩ (.int .i64 ap105)).setCell ⟨BB, 5, none⟩ (.int .i64 bp105)).setCell ⟨BB, 6, none⟩ (.int .i64 ap107)).setCell ⟨BB, 7, none⟩ (.int .i64 bp107) = z := ⟨_, rfl⟩
      have hsp111 : setAll p108 (BB) 0 [.slice y.aT y.nT y.cT, .slice none 0 0, .int .i64 ap103, .int .i64 bp103, .int .i64 ap105, .int .i64 bp105, .int .i64 ap107, .int .i64 bp107] = p111 := hp111
      have hgp111 : p108.grownBy p111 (some (BB)) := by rw [← hsp111]; exact setAll_grown (BB) [.slice y.aT y.nT y.cT, .slice none 0 0, .int .i64 ap103, .int .i64 bp103, .int .i64 ap105, .int .i64 bp105, .int .i64 ap107, .int .i64 bp107] 0 p108
      have ZBp111 := Lib.hid (show p111.heap[BB]? = some (.cells #[.slice y.aT y.nT y.cT, .slice none 0 0, .int .i64 ap103, .int .i64 bp103, .int .i64 ap105, .int .i64 bp105, .int .i64 ap107, .int .i64 bp107] 36 (0, 0)) by rw [← hsp111]; exact set_all [.slice y.aT y.nT y.cT, .slice none 0 0, .int .i64 ap103, .int .i64 bp103, .int .i64 ap105, .int .i64 bp105, .int .i64 ap107, .int .i64 bp107] ZBB.out rfl)
      have Z0p111 := Lib.hid ((hgp111.block (w.heap.size) (Array.getElem?_eq_some_iff.1 Z0p108.out).1 (by simp <;> omega)).trans Z0p108.out)
      have Kp111 := Lib.hid (Kp108.out.far hgp111 (by omega) (by omega) (by omega))
      have Gp111 := Lib.hid (grownBy_far Gp108.out hgp111 (by omega))
      rw [hp111]
      clear hp111 hsp111 hgp111 e0 f0 e1 f1 e2 f2 e3 f3 e4 f4 e5 f5 e6 f6 e7 f7
      refine contQ_now ⟨keep1 (Z0p111.out.trans ZyW3.out.symm), ?_⟩
      refine wpPlan_last ?_
      simp only [pickL, List.getElem?_cons_zero, List.getElem?_cons_succ]
      repeat (go_big_quiet_step (fail))
      refine wpQuiet_nil ?_
      refine contN_nil ?_
      go_wp2_with fail
      go_meet
      exact ⟨BB, ap103, bp103, ap105, bp105, ap107, bp107, rfl, ZBp111, Lib.hid ⟨Ap103.out, Ap105.out, Ap107.out⟩, Lib.hid (Kp111.out.mono (by omega)), Gp111, by omega⟩
  case rest =>
    obtain ⟨B, z0, z1, z2, z3, z4, z5, rfl, ZB, NZ, K5, G5, lB5⟩ := hcut
    obtain ⟨W5, rfl⟩ : ∃ V : World, V = wc := ⟨_, rfl⟩
    have BNE : W2.heap.size < B := by have := K0.out.inn; omega
    have lt5 := K5.out.inn
    have BN5 := (Array.getElem?_eq_some_iff.1 ZB.out).1
    have y13 : 0 < y.nR := by omega
    have y14 : y.nR ≤ 17 := by omega
    clear y10 y11
    have ZyW5 := Lib.hid ((K5.out.low.block (w.heap.size) (Array.getElem?_eq_some_iff.1 ZyW2.out).1).trans ZyW2.out)
    have ZvW5 := Lib.hid ((K5.out.low.block (w.heap.size + 1) (Array.getElem?_eq_some_iff.1 ZvW2.out).1).trans ZvW2.out)
    have HBW5 := Lib.hid (thru (thru K5.out.low SW3.out) HBc.out)
    obtain ⟨br, ofr, er, lbr, hcr⟩ := HI.out.r.resolve_left (by omega)
    have HCR := Lib.hid hcr; clear hcr ey0W3 ey1W3 ey2W3 ey3W3 ey4W3 ey5W3 ey6W3 ey7W3
    have ey0W5 : W5.cell? ⟨w.heap.size, 0, none⟩ = some (.slice y.aT y.nT y.cT) := cell_of_block ZyW5.out 0 (by simp)
    have ey1W5 : W5.cell? ⟨w.heap.size, 1, none⟩ = some (.slice y.aR y.nR y.cR) := cell_of_block ZyW5.out 1 (by simp)
    have ey2W5 : W5.cell? ⟨w.heap.size, 2, none⟩ = some (.int .i64 y.sl) := cell_of_block ZyW5.out 2 (by simp)
    have ey3W5 : W5.cell? ⟨w.heap.size, 3, none⟩ = some (.int .i64 y.sh) := cell_of_block ZyW5.out 3 (by simp)
    have ey4W5 : W5.cell? ⟨w.heap.size, 4, none⟩ = some (.int .i64 y.gl) := cell_of_block ZyW5.out 4 (by simp)
    have ey5W5 : W5.cell? ⟨w.heap.size, 5, none⟩ = some (.int .i64 y.gh) := cell_of_block ZyW5.out 5 (by simp)
    have ey6W5 : W5.cell? ⟨w.heap.size, 6, none⟩ = some (.int .i64 y.hl) := cell_of_block ZyW5.out 6 (by simp)
    have ey7W5 : W5.cell? ⟨w.heap.size, 7, none⟩ = some (.int .i64 y.hh) := cell_of_block ZyW5.out 7 (by simp)
    have lyW5 := (Array.getElem?_eq_some_iff.1 ZyW5.out).1
    rw [er] at ey1W5
    have ER := Lib.hid er; clear er
    go_wp2_with fail
    clear ey0W5 ey2W5 ey3W5 ey4W5 ey5W5 ey6W5 ey7W5 ey1W5
    obtain ⟨j0, jh, jy0, jy1, jy2⟩ := info_parts infoSP
    have JI := Lib.hid jh; have Y0 := Lib.hid jy0; have Y1 := Lib.hid jy1; have Y2 := Lib.hid jy2
    clear jh jy0 jy1 jy2
    go_loopw [90] (fun i wr => ∃ (j : Nat) (aZ : Option Addr) (cZ : Nat) (A' B' : Nat → Int), j ≤ y.nR ∧ i = .int .i64 j ∧ Hid (wr.heap[B]? = some (.cells #[.slice y.aT y.nT y.cT, .slice aZ j cZ, .int .i64 z0, .int .i64 z1, .int .i64 z2, .int .i64 z3, .int .i64 z4, .int .i64 z5] 36 (0, 0))) ∧ Hid (wr.ownsRow W5.heap.size 23 2 (.slice aZ j cZ) j (spansV j A' B')) ∧ Hid (∀ i, i < j → Nar (A' i) (B' i) (y.A i) (y.B i)) ∧ Hid (KW W2 (W2.heap.size) (w.heap.size + 1 + 1) (6 + 2 * j) aB nB cB wr) ∧ W5.heap.size ≤ wr.heap.size) (fun i _ => y.nR - (intOf i).toNat)
    case atStart => exact ⟨0, none, 0, fun _ => 0, fun _ => 0, Nat.zero_le _, rfl, ZB, Lib.hid (World.ownsRow_nil _ _ _ _), Lib.hid (fun i hi => absurd hi (Nat.not_lt_zero i)), K5, Nat.le_refl _⟩
    case round =>
      obtain ⟨j, aZ, cZ, A', B', hj, rfl, ZBr, RW, NR, KR, lr⟩ := hrel
      have lsz := KR.out.low.size
      by_cases hlt : j < y.nR
      rotate_left
      · skip
        obtain rfl : j = y.nR := by omega
        have HBr := Lib.hid (thru (thru KR.out.low SW3.out) HBc.out)
        have BNr := (Array.getElem?_eq_some_iff.1 ZBr.out).1
        have ltr := KR.out.inn
        have Zvwr := Lib.hid ((KR.out.low.block (w.heap.size + 1) (Array.getElem?_eq_some_iff.1 ZvW2.out).1).trans ZvW2.out)
        have ev0wr : wr.cell? ⟨w.heap.size + 1, 0, none⟩ = some (.int .i64 v.sl) := cell_of_block Zvwr.out 0 (by simp)
        have ev1wr : wr.cell? ⟨w.heap.size + 1, 1, none⟩ = some (.int .i64 v.sh) := cell_of_block Zvwr.out 1 (by simp)
        have ev2wr : wr.cell? ⟨w.heap.size + 1, 2, none⟩ = some (.int .i64 v.el) := cell_of_block Zvwr.out 2 (by simp)
        have ev3wr : wr.cell? ⟨w.heap.size + 1, 3, none⟩ = some (.int .i64 v.eh) := cell_of_block Zvwr.out 3 (by simp)
        have ev4wr : wr.cell? ⟨w.heap.size + 1, 4, none⟩ = some (.int .i64 v.pl) := cell_of_block Zvwr.out 4 (by simp)
        have ev5wr : wr.cell? ⟨w.heap.size + 1, 5, none⟩ = some (.int .i64 v.ph) := cell_of_block Zvwr.out 5 (by simp)
        have ev6wr : wr.cell? ⟨w.heap.size + 1, 6, none⟩ = some (.int .i64 v.gl) := cell_of_block Zvwr.out 6 (by simp)
        have ev7wr : wr.cell? ⟨w.heap.size + 1, 7, none⟩ = some (.int .i64 v.gh) := cell_of_block Zvwr.out 7 (by simp)
        have ev8wr : wr.cell? ⟨w.heap.size + 1, 8, none⟩ = some (.int .i64 v.ol) := cell_of_block Zvwr.out 8 (by simp)
        have ev9wr : wr.cell? ⟨w.heap.size + 1, 9, none⟩ = some (.int .i64 v.oh) := cell_of_block Zvwr.out 9 (by simp)
        have ev10wr : wr.cell? ⟨w.heap.size + 1, 10, none⟩ = some (.int .i64 v.tl) := cell_of_block Zvwr.out 10 (by simp)
        have ev11wr : wr.cell? ⟨w.heap.size + 1, 11, none⟩ = some (.int .i64 v.th) := cell_of_block Zvwr.out 11 (by simp)
        have ev12wr : wr.cell? ⟨w.heap.size + 1, 12, none⟩ = some (.int .i64 v.c) := cell_of_block Zvwr.out 12 (by simp)
        have lvwr := (Array.getElem?_eq_some_iff.1 Zvwr.out).1
        go_upto_region 14 with (fail)
        go_cut [16] (fun s16 wx => ∃ (Bw : Nat) (x0 x1 x2 x3 x4 x5 x6 x7 x8 x9 x10 x11 : Int), s16 = .pointer (some ⟨Bw, 0, none⟩) ∧ Hid (wx.heap[Bw]? = some (.cells #[.int .i64 x0, .int .i64 x1, .int .i64 x2, .int .i64 x3, .int .i64 x4, .int .i64 x5, .int .i64 x6, .int .i64 x7, .int .i64 x8, .int .i64 x9, .int .i64 x10, .int .i64 x11, .int .i64 v.c] 38 (0, 0))) ∧ Hid (Nar x0 x1 v.sl v.sh ∧ Nar x2 x3 v.el v.eh ∧ Nar x4 x5 v.pl v.ph ∧ Nar x6 x7 v.gl v.gh ∧ Nar x8 x9 v.ol v.oh ∧ Nar x10 x11 v.tl v.th) ∧ Hid (KW W2 (W2.heap.size) (w.heap.size + 1 + 1) (18 + 2 * y.nR) aB nB cB wx) ∧ Hid (wr.grownBy wx (some (W2.heap.size))) ∧ wr.heap.size ≤ Bw)
        case first =>
          haveI hne : Nonempty (KeepW wr [w.heap.size + 1]) := ⟨⟨wr, fun _ _ => rfl⟩⟩
          refine wp_region_chain (fun w' => ∃ x : KeepW wr [w.heap.size + 1], w' = x.w) [0, 1, 2, 4, 5, 6, 8, 9, 10, 12, 13, 14, 16, 17, 18, 20, 21, 22, 24, 25] [3, 7, 11, 15, 19, 23] 27 16 (W2.heap.size) wr.heap.size (.step [26] 27 (.step [] 28 (.last []))) (.step [26] 28 (.last [])) (by kernel_rfl) rfl infoVat2 rfl KR.out.inn (Nat.le_refl _) (by kernel_rfl) ?_
          rintro _ ⟨qq, rfl⟩
          obtain ⟨p112, hp112⟩ : ∃ z, gw wr qq = z := ⟨_, rfl⟩
          have bp112 := below_gw wr qq
          rw [hp112] at bp112 ⊢
          clear hp112 qq
          have Z0p112 := Lib.hid ((bp112.block (w.heap.size + 1) (Array.getElem?_eq_some_iff.1 Zvwr.out).1).trans Zvwr.out)
          have Kp112 := Lib.hid (KR.out.below bp112)
          have Gp112 := Lib.hid (grownBy_of_below bp112 (some (W2.heap.size)))
          clear bp112
          refine ⟨keep1 (Z0p112.out.trans Zvwr.out.symm), ?_⟩
          simp only [pickL, List.getElem?_cons_zero, List.getElem?_cons_succ]
          repeat (go_big_quiet_step (fail))
          refine wpQuiet_nil ?_
          refine ⟨_, rfl, fun up113 p113 bp113 => ?_⟩
          have Z0p113 := Lib.hid ((bp113.block (w.heap.size + 1) (Array.getElem?_eq_some_iff.1 Z0p112.out).1).trans Z0p112.out)
          have Kp113 := Lib.hid (Kp112.out.below bp113)
          have Gp113 := Lib.hid (grownBy_trans Gp112.out (grownBy_of_below bp113 _))
          simp only [Act.put, List.setIfInBounds_toArray, List.set_cons_succ, List.set_cons_zero]
          refine ⟨keep1 (Z0p113.out.trans Zvwr.out.symm), ?_⟩
          refine wpChain_cons ?_
          simp only [pickL, List.getElem?_cons_zero, List.getElem?_cons_succ]
          go_wp2_with fail
          rename_i KK hKK
          refine (CUT.out (6 + 2 * y.nR) v.sl v.sh (by omega) (by omega) (by omega) (by omega) p113 Kp113.out).mono ?_
          rintro e p114 ⟨ap114, bp114, rfl, nap114, hkp114, hgp114⟩
          refine hKK _ _ (contQ_nil ⟨rfl, hgp114, ?_⟩)
          clear hKK KK
          have Kp114 := Lib.hid hkp114; have Ap114 := Lib.hid nap114; clear hkp114 nap114
          have Z0p114 := Lib.hid ((hgp114.block (w.heap.size + 1) (Array.getElem?_eq_some_iff.1 Z0p113.out).1 (by simp <;> omega)).trans Z0p113.out)
          have Gp114 := Lib.hid (grownBy_trans Gp113.out hgp114); clear hgp114
          intro up115 p115 bp115
          have Z0p115 := Lib.hid ((bp115.block (w.heap.size + 1) (Array.getElem?_eq_some_iff.1 Z0p114.out).1).trans Z0p114.out)
          have Kp115 := Lib.hid (Kp114.out.below bp115)
          have Gp115 := Lib.hid (grownBy_trans Gp114.out (grownBy_of_below bp115 _))
          clear bp115
          simp only [Act.put, List.setIfInBounds_toArray, List.set_cons_succ, List.set_cons_zero]
          refine ⟨keep1 (Z0p115.out.trans Zvwr.out.symm), ?_⟩
          refine wpChain_cons ?_
          simp only [pickL, List.getElem?_cons_zero, List.getElem?_cons_succ]
          go_wp2_with fail
          rename_i KK hKK
          refine (CUT.out (6 + 2 * y.nR + 2) v.el v.eh (by omega) (by omega) (by omega) (by omega) p115 Kp115.out).mono ?_
          rintro e p116 ⟨ap116, bp116, rfl, nap116, hkp116, hgp116⟩
          refine hKK _ _ (contQ_nil ⟨rfl, hgp116, ?_⟩)
          clear hKK KK
          have Kp116 := Lib.hid hkp116; have Ap116 := Lib.hid nap116; clear hkp116 nap116
          have Z0p116 := Lib.hid ((hgp116.block (w.heap.size + 1) (Array.getElem?_eq_some_iff.1 Z0p115.out).1 (by simp <;> omega)).trans Z0p115.out)
          have Gp116 := Lib.hid (grownBy_trans Gp115.out hgp116); clear hgp116
          intro up117 p117 bp117
          have Z0p117 := Lib.hid ((bp117.block (w.heap.size + 1) (Array.getElem?_eq_some_iff.1 Z0p116.out).1).trans Z0p116.out)
          have Kp117 := Lib.hid (Kp116.out.below bp117)
          have Gp117 := Lib.hid (grownBy_trans Gp116.out (grownBy_of_below bp117 _))
          clear bp117
          simp only [Act.put, List.setIfInBounds_toArray, List.set_cons_succ, List.set_cons_zero]
          refine ⟨keep1 (Z0p117.out.trans Zvwr.out.symm), ?_⟩
          refine wpChain_cons ?_
          simp only [pickL, List.getElem?_cons_zero, List.getElem?_cons_succ]
          go_wp2_with fail
          rename_i KK hKK
          refine (CUT.out (6 + 2 * y.nR + 2 + 2) v.pl v.ph (by omega) (by omega) (by omega) (by omega) p117 Kp117.out).mono ?_
          rintro e p118 ⟨ap118, bp118, rfl, nap118, hkp118, hgp118⟩
          refine hKK _ _ (contQ_nil ⟨rfl, hgp118, ?_⟩)
          clear hKK KK
          have Kp118 := Lib.hid hkp118; have Ap118 := Lib.hid nap118; clear hkp118 nap118
          have Z0p118 := Lib.hid ((hgp118.block (w.heap.size + 1) (Array.getElem?_eq_some_iff.1 Z0p117.out).1 (by simp <;> omega)).trans Z0p117.out)
          have Gp118 := Lib.hid (grownBy_trans Gp117.out hgp118); clear hgp118
          intro up119 p119 bp119
          have Z0p119 := Lib.hid ((bp119.block (w.heap.size + 1) (Array.getElem?_eq_some_iff.1 Z0p118.out).1).trans Z0p118.out)
          have Kp119 := Lib.hid (Kp118.out.below bp119)
          have Gp119 := Lib.hid (grownBy_trans Gp118.out (grownBy_of_below bp119 _))
          clear bp119
          simp only [Act.put, List.setIfInBounds_toArray, List.set_cons_succ, List.set_cons_zero]
          refine ⟨keep1 (Z0p119.out.trans Zvwr.out.symm), ?_⟩
          refine wpChain_cons ?_
          simp only [pickL, List.getElem?_cons_zero, List.getElem?_cons_succ]
          go_wp2_with fail
          rename_i KK hKK
          refine (CUT.out (6 + 2 * y.nR + 2 + 2 + 2) v.gl v.gh (by omega) (by omega) (by omega) (by omega) p119 Kp119.out).mono ?_
          rintro e p120 ⟨ap120, bp120, rfl, nap120, hkp120, hgp120⟩
          refine hKK _ _ (contQ_nil ⟨rfl, hgp120, ?_⟩)
          clear hKK KK
          have Kp120 := Lib.hid hkp120; have Ap120 := Lib.hid nap120; clear hkp120 nap120
          have Z0p120 := Lib.hid ((hgp120.block (w.heap.size + 1) (Array.getElem?_eq_some_iff.1 Z0p119.out).1 (by simp <;> omega)).trans Z0p119.out)
          have Gp120 := Lib.hid (grownBy_trans Gp119.out hgp120); clear hgp120
          intro up121 p121 bp121
          have Z0p121 := Lib.hid ((bp121.block (w.heap.size + 1) (Array.getElem?_eq_some_iff.1 Z0p120.out).1).trans Z0p120.out)
          have Kp121 := Lib.hid (Kp120.out.below bp121)
          have Gp121 := Lib.hid (grownBy_trans Gp120.out (grownBy_of_below bp121 _))
          clear bp121
          simp only [Act.put, List.setIfInBounds_toArray, List.set_cons_succ, List.set_cons_zero]
          refine ⟨keep1 (Z0p121.out.trans Zvwr.out.symm), ?_⟩
          refine wpChain_cons ?_
          simp only [pickL, List.getElem?_cons_zero, List.getElem?_cons_succ]
          go_wp2_with fail
          rename_i KK hKK
          refine (CUT.out (6 + 2 * y.nR + 2 + 2 + 2 + 2) v.ol v.oh (by omega) (by omega) (by omega) (by omega) p121 Kp121.out).mono ?_
          rintro e p122 ⟨ap122, bp122, rfl, nap122, hkp122, hgp122⟩
          refine hKK _ _ (contQ_nil ⟨rfl, hgp122, ?_⟩)
          clear hKK KK
          have Kp122 := Lib.hid hkp122; have Ap122 := Lib.hid nap122; clear hkp122 nap122
          have Z0p122 := Lib.hid ((hgp122.block (w.heap.size + 1) (Array.getElem?_eq_some_iff.1 Z0p121.out).1 (by simp <;> omega)).trans Z0p121.out)
          have Gp122 := Lib.hid (grownBy_trans Gp121.out hgp122); clear hgp122
          intro up123 p123 bp123
          have Z0p123 := Lib.hid ((bp123.block (w.heap.size + 1) (Array.getElem?_eq_some_iff.1 Z0p122.out).1).trans Z0p122.out)
          have Kp123 := Lib.hid (Kp122.out.below bp123)
          have Gp123 := Lib.hid (grownBy_trans Gp122.out (grownBy_of_below bp123 _))
          clear bp123
          simp only [Act.put, List.setIfInBounds_toArray, List.set_cons_succ, List.set_cons_zero]
          refine ⟨keep1 (Z0p123.out.trans Zvwr.out.symm), ?_⟩
          refine wpChain_cons ?_
          simp only [pickL, List.getElem?_cons_zero, List.getElem?_cons_succ]
          go_wp2_with fail
          rename_i KK hKK
          refine (CUT.out (6 + 2 * y.nR + 2 + 2 + 2 + 2 + 2) v.tl v.th (by omega) (by omega) (by omega) (by omega) p123 Kp123.out).mono ?_
          rintro e p124 ⟨ap124, bp124, rfl, nap124, hkp124, hgp124⟩
          refine hKK _ _ (contQ_nil ⟨rfl, hgp124, ?_⟩)
          clear hKK KK
          have Kp124 := Lib.hid hkp124; have Ap124 := Lib.hid nap124; clear hkp124 nap124
          have Z0p124 := Lib.hid ((hgp124.block (w.heap.size + 1) (Array.getElem?_eq_some_iff.1 Z0p123.out).1 (by simp <;> omega)).trans Z0p123.out)
          have Gp124 := Lib.hid (grownBy_trans Gp123.out hgp124); clear hgp124
          intro up125 p125 bp125
          have Z0p125 := Lib.hid ((bp125.block (w.heap.size + 1) (Array.getElem?_eq_some_iff.1 Z0p124.out).1).trans Z0p124.out)
          have Kp125 := Lib.hid (Kp124.out.below bp125)
          have Gp125 := Lib.hid (grownBy_trans Gp124.out (grownBy_of_below bp125 _))
          clear bp125
          simp only [Act.put, List.setIfInBounds_toArray, List.set_cons_succ, List.set_cons_zero]
          refine ⟨keep1 (Z0p125.out.trans Zvwr.out.symm), ?_⟩
          have ms := Gp125.out.size
          refine wpChain_nil ?_ ?_
          · skip
            refine wpPlan_step ?_
            simp only [pickL, List.getElem?_cons_zero, List.getElem?_cons_succ]
            repeat (go_big_quiet_step (fail))
            refine wpQuiet_nil ?_
            go_wp2_with fail
            obtain ⟨p126, hp126⟩ : ∃ z, p125.alloc (.cells #[.int .i64 0, .int .i64 0, .int .i64 0, .int .i64 0, .int .i64 0, .int .i64 0, .int .i64 0, .int .i64 0, .int .i64 0, .int .i64 0, .int .i64 0, .int .i64 0, .int .i64 0] 38) = z := ⟨_, rfl⟩
            have bp126 : Below p125.heap.size p125 p126 := by rw [← hp126]; exact below_alloc _ _
            have ZBp126 := Lib.hid (show p126.heap[p125.heap.size]? = some (.cells #[.int .i64 0, .int .i64 0, .int .i64 0, .int .i64 0, .int .i64 0, .int .i64 0, .int .i64 0, .int .i64 0, .int .i64 0, .int .i64 0, .int .i64 0, .int .i64 0, .int .i64 0] 38 (0, 0)) by rw [← hp126]; exact alloc_at rfl)
            have lBp126 := Kp125.out.inn
            have mBp126 := Gp125.out.size
            have Z0p126 := Lib.hid ((bp126.block (w.heap.size + 1) (Array.getElem?_eq_some_iff.1 Z0p125.out).1).trans Z0p125.out)
            have Kp126 := Lib.hid (Kp125.out.below bp126)
            have Gp126 := Lib.hid (grownBy_trans Gp125.out (grownBy_of_below bp126 _))
            rw [hp126]
            clear hp126 bp126
            refine contQ_now ⟨keep1 (Z0p126.out.trans Zvwr.out.symm), ?_⟩
            refine wpPlan_step ?_
            simp only [pickL, List.getElem?_cons_zero, List.getElem?_cons_succ]
            repeat (go_big_quiet_step (fail))
            refine wpQuiet_nil ?_
            have e0 := cell_of_block ZBp126.out 0 (by simp)
            have f0 := frozen_of_block ZBp126.out 0
            have e1 := cell_of_block ZBp126.out 1 (by simp)
            have f1 := frozen_of_block ZBp126.out 1
            have e2 := cell_of_block ZBp126.out 2 (by simp)
            have f2 := frozen_of_block ZBp126.out 2
            have e3 := cell_of_block ZBp126.out 3 (by simp)
            have f3 := frozen_of_block ZBp126.out 3
            have e4 := cell_of_block ZBp126.out 4 (by simp)
            have f4 := frozen_of_block ZBp126.out 4
            have e5 := cell_of_block ZBp126.out 5 (by simp)
            have f5 := frozen_of_block ZBp126.out 5
            have e6 := cell_of_block ZBp126.out 6 (by simp)
            have f6 := frozen_of_block ZBp126.out 6
            have e7 := cell_of_block ZBp126.out 7 (by simp)
            have f7 := frozen_of_block ZBp126.out 7
            have e8 := cell_of_block ZBp126.out 8 (by simp)
            have f8 := frozen_of_block ZBp126.out 8
            have e9 := cell_of_block ZBp126.out 9 (by simp)
            have f9 := frozen_of_block ZBp126.out 9
            have e10 := cell_of_block ZBp126.out 10 (by simp)
            have f10 := frozen_of_block ZBp126.out 10
            have e11 := cell_of_block ZBp126.out 11 (by simp)
            have f11 := frozen_of_block ZBp126.out 11
            have e12 := cell_of_block ZBp126.out 12 (by simp)
            have f12 := frozen_of_block ZBp126.out 12
            have lz := (Array.getElem?_eq_some_iff.1 ZBp126.out).1
            go_wp2_with fail
            obtain ⟨p127, hp127⟩ : ∃ z, (((((((((((((p126).setCell ⟨p125.heap.size, 0, none⟩ (.int .i64 ap114)).setCell ⟨p125.heap.size, 1, none⟩ (.int .i64 bp114)).setCell ⟨p125.heap.size, 2, none⟩ (.int .i64 ap116)).setCell ⟨p125.heap.size, 3, none⟩ (.int .i64 bp116)).setCell ⟨p125.heap.size, 4, none⟩ (.int .i64 ap118)).setCell ⟨p125.heap.size, 5, none⟩ (.int .i64 bp118)).setCell ⟨p125.heap.size, 6, none⟩ (.int .i64 ap120)).setCell ⟨p125.heap.size, 7, none⟩ (.int .i64 bp120)).setCell ⟨p125.heap.size, 8, none⟩ (.int .i64 ap122)).setCell ⟨p125.heap.size, 9, none⟩ (.int .i64 bp122)).setCell ⟨p125.heap.size, 10, none⟩ (.int .i64 ap124)).setCell ⟨p125.heap.size, 11, none⟩ (.int .i64 bp124)).setCell ⟨p125.heap.size, 12, none⟩ (.int .i64 v.c) = z := ⟨_, rfl⟩
            have hsp127 : setAll p126 (p125.heap.size) 0 [.int .i64 ap114, .int .i64 bp114, .int .i64 ap116, .int .i64 bp116, .int .i64 ap118, .int .i64 bp118, .int .i64 ap120, .int .i64 bp120, .int .i64 ap122, .int .i64 bp122, .int .i64 ap124, .int .i64 bp124, .int .i64 v.c] = p127 := hp127
            have hgp127 : p126.grownBy p127 (some (p125.heap.size)) := by rw [← hsp127]; exact setAll_grown (p125.heap.size) [.int .i64 ap114, .int .i64 bp114, .int .i64 ap116, .int .i64 bp116, .int .i64 ap118, .int .i64 bp118, .int .i64 ap120, .int .i64 bp120, .int .i64 ap122, .int .i64 bp122, .int .i64 ap124, .int .i64 bp124, .int .i64 v.c] 0 p126
            have ZBp127 := Lib.hid (show p127.heap[p125.heap.size]? = some (.cells #[.int .i64 ap114, .int .i64 bp114, .int .i64 ap116, .int .i64 bp116, .int .i64 ap118, .int .i64 bp118, .int .i64 ap120, .int .i64 bp120, .int .i64 ap122, .int .i64 bp122, .int .i64 ap124, .int .i64 bp124, .int .i64 v.c] 38 (0, 0)) by rw [← hsp127]; exact set_all [.int .i64 ap114, .int .i64 bp114, .int .i64 ap116, .int .i64 bp116, .int .i64 ap118, .int .i64 bp118, .int .i64 ap120, .int .i64 bp120, .int .i64 ap122, .int .i64 bp122, .int .i64 ap124, .int .i64 bp124, .int .i64 v.c] ZBp126.out rfl)
            have Z0p127 := Lib.hid ((hgp127.block (w.heap.size + 1) (Array.getElem?_eq_some_iff.1 Z0p126.out).1 (by simp <;> omega)).trans Z0p126.out)
            have Kp127 := Lib.hid (Kp126.out.far hgp127 (by omega) (by omega) (by omega))
            have Gp127 := Lib.hid (grownBy_far Gp126.out hgp127 (by omega))
            rw [hp127]
            clear hp127 hsp127 hgp127 e0 f0 e1 f1 e2 f2 e3 f3 e4 f4 e5 f5 e6 f6 e7 f7 e8 f8 e9 f9 e10 f10 e11 f11 e12 f12
            refine contQ_now ⟨keep1 (Z0p127.out.trans Zvwr.out.symm), ?_⟩
            refine wpPlan_last ?_
            simp only [pickL, List.getElem?_cons_zero, List.getElem?_cons_succ]
            repeat (go_big_quiet_step (fail))
            refine wpQuiet_nil ?_
            refine contN_nil ?_
            go_wp2_with fail
            go_meet
            exact ⟨p125.heap.size, ap114, bp114, ap116, bp116, ap118, bp118, ap120, bp120, ap122, bp122, ap124, bp124, rfl, ZBp127, Lib.hid ⟨Ap114.out, Ap116.out, Ap118.out, Ap120.out, Ap122.out, Ap124.out⟩, Lib.hid (Kp127.out.mono (by omega)), Gp127, by omega⟩
          · rintro BB rfl hbb lbb
            have ZBB := Lib.hid hbb; clear hbb
            refine wpPlan_step ?_
            simp only [pickL, List.getElem?_cons_zero, List.getElem?_cons_succ]
            repeat (go_big_quiet_step (fail))
            refine wpQuiet_nil ?_
            have e0 := cell_of_block ZBB.out 0 (by simp)
            have f0 := frozen_of_block ZBB.out 0
            have e1 := cell_of_block ZBB.out 1 (by simp)
            have f1 := frozen_of_block ZBB.out 1
            have e2 := cell_of_block ZBB.out 2 (by simp)
            have f2 := frozen_of_block ZBB.out 2
            have e3 := cell_of_block ZBB.out 3 (by simp)
            have f3 := frozen_of_block ZBB.out 3
            have e4 := cell_of_block ZBB.out 4 (by simp)
            have f4 := frozen_of_block ZBB.out 4
            have e5 := cell_of_block ZBB.out 5 (by simp)
            have f5 := frozen_of_block ZBB.out 5
            have e6 := cell_of_block ZBB.out 6 (by simp)
            have f6 := frozen_of_block ZBB.out 6
            have e7 := cell_of_block ZBB.out 7 (by simp)
            have f7 := frozen_of_block ZBB.out 7
            have e8 := cell_of_block ZBB.out 8 (by simp)
            have f8 := frozen_of_block ZBB.out 8
            have e9 := cell_of_block ZBB.out 9 (by simp)
            have f9 := frozen_of_block ZBB.out 9
            have e10 := cell_of_block ZBB.out 10 (by simp)
            have f10 := frozen_of_block ZBB.out 10
            have e11 := cell_of_block ZBB.out 11 (by simp)
            have f11 := frozen_of_block ZBB.out 11
            have e12 := cell_of_block ZBB.out 12 (by simp)
            have f12 := frozen_of_block ZBB.out 12
            have lz := (Array.getElem?_eq_some_iff.1 ZBB.out).1
            go_wp2_with fail
            obtain ⟨p128, hp128⟩ : ∃ z, (((((((((((((p125).setCell ⟨BB, 0, none⟩ (.int .i64 ap114)).setCell ⟨BB, 1, none⟩ (.int .i64 bp114)).setCell ⟨BB, 2, none⟩ (.int .i64 ap116)).setCell ⟨BB, 3, none⟩ (.int .i64 bp116)).setCell ⟨BB, 4, none⟩ (.int .i64 ap118)).setCell ⟨BB, 5, none⟩ (.int .i64 bp118)).setCell ⟨BB, 6, none⟩ (.int .i64 ap120)).setCell ⟨BB, 7, none⟩ (.int .i64 bp120)).setCell ⟨BB, 8, none⟩ (.int .i64 ap122)).setCell ⟨BB, 9, none⟩ (.int .i64 bp122)).setCell ⟨BB, 10, none⟩ (.int .i64 ap124)).setCell ⟨BB, 11, none⟩ (.int .i64 bp124)).setCell ⟨BB, 12, none⟩ (.int .i64 v.c) = z := ⟨_, rfl⟩
            have hsp128 : setAll p125 (BB) 0 [.int .i64 ap114, .int .i64 bp114, .int .i64 ap116, .int .i64 bp116, .int .i64 ap118, .int .i64 bp118, .int .i64 ap120, .int .i64 bp120, .int .i64 ap122, .int .i64 bp122, .int .i64 ap124, .int .i64 bp124, .int .i64 v.c] = p128 := hp128
            have hgp128 : p125.grownBy p128 (some (BB)) := by rw [← hsp128]; exact setAll_grown (BB) [.int .i64 ap114, .int .i64 bp114, .int .i64 ap116, .int .i64 bp116, .int .i64 ap118, .int .i64 bp118, .int .i64 ap120, .int .i64 bp120, .int .i64 ap122, .int .i64 bp122, .int .i64 ap124, .int .i64 bp124, .int .i64 v.c] 0 p125
            have ZBp128 := Lib.hid (show p128.heap[BB]? = some (.cells #[.int .i64 ap114, .int .i64 bp114, .int .i64 ap116, .int .i64 bp116, .int .i64 ap118, .int .i64 bp118, .int .i64 ap120, .int .i64 bp120, .int .i64 ap122, .int .i64 bp122, .int .i64 ap124, .int .i64 bp124, .int .i64 v.c] 38 (0, 0)) by rw [← hsp128]; exact set_all [.int .i64 ap114, .int .i64 bp114, .int .i64 ap116, .int .i64 bp116, .int .i64 ap118, .int .i64 bp118, .int .i64 ap120, .int .i64 bp120, .int .i64 ap122, .int .i64 bp122, .int .i64 ap124, .int .i64 bp124, .int .i64 v.c] ZBB.out rfl)
            have Z0p128 := Lib.hid ((hgp128.block (w.heap.size + 1) (Array.getElem?_eq_some_iff.1 Z0p125.out).1 (by simp <;> omega)).trans Z0p125.out)
            have Kp128 := Lib.hid (Kp125.out.far hgp128 (by omega) (by omega) (by omega))
            have Gp128 := Lib.hid (grownBy_far Gp125.out hgp128 (by omega))
            rw [hp128]
            clear hp128 hsp128 hgp128 e0 f0 e1 f1 e2 f2 e3 f3 e4 f4 e5 f5 e6 f6 e7 f7 e8 f8 e9 f9 e10 f10 e11 f11 e12 f12
            refine contQ_now ⟨keep1 (Z0p128.out.trans Zvwr.out.symm), ?_⟩
            refine wpPlan_last ?_
            simp only [pickL, List.getElem?_cons_zero, List.getElem?_cons_succ]
            repeat (go_big_quiet_step (fail))
            refine wpQuiet_nil ?_
            refine contN_nil ?_
            go_wp2_with fail
            go_meet
            exact ⟨BB, ap114, bp114, ap116, bp116, ap118, bp118, ap120, bp120, ap122, bp122, ap124, bp124, rfl, ZBp128, Lib.hid ⟨Ap114.out, Ap116.out, Ap118.out, Ap120.out, Ap122.out, Ap124.out⟩, Lib.hid (Kp128.out.mono (by omega)), Gp128, by omega⟩
        case rest =>
          obtain ⟨Bw, x0, x1, x2, x3, x4, x5, x6, x7, x8, x9, x10, x11, rfl, ZW, NW, K8, G8, lB8⟩ := hcut
          obtain ⟨W8, rfl⟩ : ∃ V : World, V = wc := ⟨_, rfl⟩
          have RW8 := Lib.hid (RW.out.kept G8.out (.inr (fun e => by have := (RW.out.lt _ e).1; omega)))
          have ZB8 := Lib.hid ((G8.out.block B BNr (by simp <;> omega)).trans ZBr.out)
          have sz8 := G8.out.size
          have BNW := (Array.getElem?_eq_some_iff.1 ZW.out).1
          have lt8 := K8.out.inn
          have lw8 := K8.out.low.size
          clear ev0wr ev1wr ev2wr ev3wr ev4wr ev5wr ev6wr ev7wr ev8wr ev9wr ev10wr ev11wr ev12wr
          go_wp2_with fail
          go_loopw [17, 132] (fun s i w2 => ∃ (j : Nat) (aC : Option Addr) (cC : Nat) (F' G' : Nat → Int), j ≤ k ∧ s = .slice aC j cC ∧ i = .int .i64 j ∧ Hid (w2.ownsRow W8.heap.size 23 2 (.slice aC j cC) j (spansV j F' G')) ∧ Hid (∀ i, i < j → Nar (F' i) (G' i) (F i) (G i)) ∧ Hid (KW W2 (W2.heap.size) (w.heap.size + 1 + 1) (18 + 2 * y.nR + 2 * j) aB nB cB w2) ∧ Hid (W8.grownBy w2 (some (W2.heap.size)))) (fun _ i _ => k - (intOf i).toNat)
          case atStart => exact ⟨0, none, 0, fun _ => 0, fun _ => 0, Nat.zero_le _, rfl, rfl, Lib.hid (World.ownsRow_nil _ _ _ _), Lib.hid (fun i hi => absurd hi (Nat.not_lt_zero i)), K8, Lib.hid ⟨rfl, rfl, rfl, Nat.le_refl _, fun _ _ _ => rfl⟩⟩
          case round =>
            obtain ⟨j, aC, cC, F', G', hj, rfl, rfl, RC, NC, KC, GC⟩ := hrel
            have szr := GC.out.size
            have ltc := KC.out.inn
            by_cases hlt : j < k
            rotate_left
            · skip
              obtain rfl : k = j := by omega
              obtain ⟨W9, rfl⟩ : ∃ V : World, V = wr := ⟨_, rfl⟩
              obtain ⟨sc, sc1, sc2⟩ := spans_full RC.out
              obtain ⟨sz_, sz1, sz2⟩ := spans_full (RW8.out.kept GC.out (.inr (fun e => by have := (RW8.out.lt _ e).1; omega)))
              have ZzW9 := Lib.hid ((GC.out.block B (Array.getElem?_eq_some_iff.1 ZB8.out).1 (by simp <;> omega)).trans ZB8.out)
              have ZwW9 := Lib.hid ((GC.out.block Bw BNW (by simp <;> omega)).trans ZW.out)
              obtain ⟨VS, hVS⟩ : ∃ f : Nat → Vat, Yst.vs ⟨y.aT, y.nT, y.cT, aZ, y.nR, cZ, y.T, A', B', z0, z1, z2, z3, z4, z5⟩ ⟨x0, x1, x2, x3, x4, x5, x6, x7, x8, x9, x10, x11, v.c⟩ F' G' = f := ⟨_, rfl⟩
              have YN : YNar ⟨y.aT, y.nT, y.cT, aZ, y.nR, cZ, y.T, A', B', z0, z1, z2, z3, z4, z5⟩ y := ⟨rfl, rfl, fun i hi => rfl, fun i hi => NR.out i hi, NZ.out.1, NZ.out.2.1, NZ.out.2.2⟩
              have VN : VNar ⟨x0, x1, x2, x3, x4, x5, x6, x7, x8, x9, x10, x11, v.c⟩ v := by obtain ⟨h1, h2, h3, h4, h5, h6⟩ := NW.out; exact ⟨h1, h2, h3, h4, h5, h6, rfl⟩
              obtain ⟨fz, hvn⟩ := fer_nar YN VN (F' := F') (G' := G') NC.out E0.out
              have FE2 : Calls Try.prog 19 #[.agg #[.slice y.aT y.nT y.cT, .slice aZ y.nR cZ, .int .i64 z0, .int .i64 z1, .int .i64 z2, .int .i64 z3, .int .i64 z4, .int .i64 z5], .agg #[.int .i64 x0, .int .i64 x1, .int .i64 x2, .int .i64 x3, .int .i64 x4, .int .i64 x5, .int .i64 x6, .int .i64 x7, .int .i64 x8, .int .i64 x9, .int .i64 x10, .int .i64 x11, .int .i64 v.c], .slice aC k cC] W9 fun e w' => ∃ a c, e = .returned (.tuple #[.slice a k c, .int .i64 0]) ∧ TupsAt w' a 13 k (fun i q => (VS (i + 1)).num q) ∧ Below W9.heap.size W9 w' := by
                rw [← hVS]
                exact (Ferment_any aC k cC F' G' ⟨y.aT, y.nT, y.cT, aZ, y.nR, cZ, y.T, A', B', z0, z1, z2, z3, z4, z5⟩ ⟨x0, x1, x2, x3, x4, x5, x6, x7, x8, x9, x10, x11, v.c⟩ W9 ⟨(HI.out.below (thru KC.out.low SW3.out)).t, sz_⟩ ⟨hf.t, hf.r, sz1, by unfold maxLen at sz2; exact Nat.le_trans sz2 (by omega)⟩ sc hk).mono (fun _ _ h => fer_tups fz h)
              rw [hVS] at hvn
              have HVN := Lib.hid hvn; have FE3 := Lib.hid FE2; clear hvn FE2 hVS YN VN fz sc sz_ sc1 sc2 sz1 sz2
              have HB9 := Lib.hid (thru (thru KC.out.low SW3.out) HBc.out)
              have ez0W9 : W9.cell? ⟨B, 0, none⟩ = some (.slice y.aT y.nT y.cT) := cell_of_block ZzW9.out 0 (by simp)
              have ez1W9 : W9.cell? ⟨B, 1, none⟩ = some (.slice aZ y.nR cZ) := cell_of_block ZzW9.out 1 (by simp)
              have ez2W9 : W9.cell? ⟨B, 2, none⟩ = some (.int .i64 z0) := cell_of_block ZzW9.out 2 (by simp)
              have ez3W9 : W9.cell? ⟨B, 3, none⟩ = some (.int .i64 z1) := cell_of_block ZzW9.out 3 (by simp)
              have ez4W9 : W9.cell? ⟨B, 4, none⟩ = some (.int .i64 z2) := cell_of_block ZzW9.out 4 (by simp)
              have ez5W9 : W9.cell? ⟨B, 5, none⟩ = some (.int .i64 z3) := cell_of_block ZzW9.out 5 (by simp)
              have ez6W9 : W9.cell? ⟨B, 6, none⟩ = some (.int .i64 z4) := cell_of_block ZzW9.out 6 (by simp)
              have ez7W9 : W9.cell? ⟨B, 7, none⟩ = some (.int .i64 z5) := cell_of_block ZzW9.out 7 (by simp)
              have lzW9 := (Array.getElem?_eq_some_iff.1 ZzW9.out).1
              have ew0W9 : W9.cell? ⟨Bw, 0, none⟩ = some (.int .i64 x0) := cell_of_block ZwW9.out 0 (by simp)
              have ew1W9 : W9.cell? ⟨Bw, 1, none⟩ = some (.int .i64 x1) := cell_of_block ZwW9.out 1 (by simp)
              have ew2W9 : W9.cell? ⟨Bw, 2, none⟩ = some (.int .i64 x2) := cell_of_block ZwW9.out 2 (by simp)
              have ew3W9 : W9.cell? ⟨Bw, 3, none⟩ = some (.int .i64 x3) := cell_of_block ZwW9.out 3 (by simp)
              have ew4W9 : W9.cell? ⟨Bw, 4, none⟩ = some (.int .i64 x4) := cell_of_block ZwW9.out 4 (by simp)
              have ew5W9 : W9.cell? ⟨Bw, 5, none⟩ = some (.int .i64 x5) := cell_of_block ZwW9.out 5 (by simp)
              have ew6W9 : W9.cell? ⟨Bw, 6, none⟩ = some (.int .i64 x6) := cell_of_block ZwW9.out 6 (by simp)
              have ew7W9 : W9.cell? ⟨Bw, 7, none⟩ = some (.int .i64 x7) := cell_of_block ZwW9.out 7 (by simp)
              have ew8W9 : W9.cell? ⟨Bw, 8, none⟩ = some (.int .i64 x8) := cell_of_block ZwW9.out 8 (by simp)
              have ew9W9 : W9.cell? ⟨Bw, 9, none⟩ = some (.int .i64 x9) := cell_of_block ZwW9.out 9 (by simp)
              have ew10W9 : W9.cell? ⟨Bw, 10, none⟩ = some (.int .i64 x10) := cell_of_block ZwW9.out 10 (by simp)
              have ew11W9 : W9.cell? ⟨Bw, 11, none⟩ = some (.int .i64 x11) := cell_of_block ZwW9.out 11 (by simp)
              have ew12W9 : W9.cell? ⟨Bw, 12, none⟩ = some (.int .i64 v.c) := cell_of_block ZwW9.out 12 (by simp)
              have lwW9 := (Array.getElem?_eq_some_iff.1 ZwW9.out).1
              go_wp2_with fail
              refine FE3.out.mono ?_
              rintro e u3 ⟨a3, c3, rfl, hT3, hb3⟩
              have HT3 := Lib.hid hT3
              have HL3 := Lib.hid (HL.out.below (thru hb3 (thru KC.out.low SBW2.out)))
              have HBu3 := Lib.hid (thru hb3 HB9.out)
              clear hT3 hb3 ez0W9 ez1W9 ez2W9 ez3W9 ez4W9 ez5W9 ez6W9 ez7W9 ew0W9 ew1W9 ew2W9 ew3W9 ew4W9 ew5W9 ew6W9 ew7W9 ew8W9 ew9W9 ew10W9 ew11W9 ew12W9
              go_wp2_with fail
              go_loopw [161] (fun i w3 => ∃ j : Nat, j ≤ k ∧ i = .int .i64 j ∧ ∃ x, w3 = gw u3 x) (fun i _ => k - (intOf i).toNat)
              case atStart => exact ⟨0, Nat.zero_le _, rfl, ⟨#[], u3.drawn⟩, by simp [gw]⟩
              case round =>
                obtain ⟨j, hj3, rfl, x, rfl⟩ := hrel
                by_cases hl3 : j < k
                rotate_left
                · obtain rfl : k = j := by omega
                  go_wp2_with fail
                  refine (Calls.gw_of (alive_any _)).mono ?_
                  rintro e w1 ⟨rfl, z50, rfl⟩
                  go_wp2_with fail
                  go_ret
                  exact ⟨rfl, HBu3.out.gw z50⟩
                obtain ⟨bm, om, em, lbm, hcm⟩ := HT3.out.resolve_left (by omega)
                cases em
                replace hcm := hcm j hl3
                have nn := HVN.out (j + 1) (by omega)
                obtain ⟨Z, hZ⟩ : ∃ Z, VS (j + 1) = Z := ⟨_, rfl⟩
                obtain ⟨Y, hY⟩ : ∃ Y, y.vs v F G (j + 1) = Y := ⟨_, rfl⟩
                simp only [hZ] at hcm
                rw [hZ, hY] at nn
                have NN := Lib.hid nn; clear nn hZ
                have d0 : u3.cell? ⟨bm, om + j * 13, none⟩ = some (.int .i64 Z.sl) := hcm 0 (by omega)
                have d1 : u3.cell? ⟨bm, om + j * 13 + 1, none⟩ = some (.int .i64 Z.sh) := hcm 1 (by omega)
                have d2 : u3.cell? ⟨bm, om + j * 13 + 2, none⟩ = some (.int .i64 Z.el) := hcm 2 (by omega)
                have d3 : u3.cell? ⟨bm, om + j * 13 + 3, none⟩ = some (.int .i64 Z.eh) := hcm 3 (by omega)
                have d4 : u3.cell? ⟨bm, om + j * 13 + 4, none⟩ = some (.int .i64 Z.pl) := hcm 4 (by omega)
                have d5 : u3.cell? ⟨bm, om + j * 13 + 5, none⟩ = some (.int .i64 Z.ph) := hcm 5 (by omega)
                have d6 : u3.cell? ⟨bm, om + j * 13 + 6, none⟩ = some (.int .i64 Z.gl) := hcm 6 (by omega)
                have d7 : u3.cell? ⟨bm, om + j * 13 + 7, none⟩ = some (.int .i64 Z.gh) := hcm 7 (by omega)
                have d8 : u3.cell? ⟨bm, om + j * 13 + 8, none⟩ = some (.int .i64 Z.ol) := hcm 8 (by omega)
                have d9 : u3.cell? ⟨bm, om + j * 13 + 9, none⟩ = some (.int .i64 Z.oh) := hcm 9 (by omega)
                have d10 : u3.cell? ⟨bm, om + j * 13 + 10, none⟩ = some (.int .i64 Z.tl) := hcm 10 (by omega)
                have d11 : u3.cell? ⟨bm, om + j * 13 + 11, none⟩ = some (.int .i64 Z.th) := hcm 11 (by omega)
                have d12 : u3.cell? ⟨bm, om + j * 13 + 12, none⟩ = some (.int .i64 Z.c) := hcm 12 (by omega)
                clear hcm
                go_upto_region 28 with (fail)
                obtain ⟨W31, hW31⟩ : ∃ W31, ((gw u3 x)).alloc (.cells #[.int .i64 Z.sl, .int .i64 Z.sh, .int .i64 Z.el, .int .i64 Z.eh, .int .i64 Z.pl, .int .i64 Z.ph, .int .i64 Z.gl, .int .i64 Z.gh, .int .i64 Z.ol, .int .i64 Z.oh, .int .i64 Z.tl, .int .i64 Z.th, .int .i64 Z.c] 38) = W31 := ⟨_, rfl⟩
                have hbW31 : Below u3.heap.size u3 W31 := by rw [← hW31]; exact (below_gw u3 x).alloc (by simp [gw_size]) _
                have zmW31 : W31.heap[u3.heap.size + x.bs.size]? = some (.cells #[.int .i64 Z.sl, .int .i64 Z.sh, .int .i64 Z.el, .int .i64 Z.eh, .int .i64 Z.pl, .int .i64 Z.ph, .int .i64 Z.gl, .int .i64 Z.gh, .int .i64 Z.ol, .int .i64 Z.oh, .int .i64 Z.tl, .int .i64 Z.th, .int .i64 Z.c] 38 (0, 0)) := by rw [← hW31]; exact alloc_at (by simp [gw_size])
                have ZmW31 := Lib.hid zmW31; clear zmW31
                have HBW31 := Lib.hid (thru hbW31 HBu3.out)
                have SBW31 := Lib.hid hbW31; clear hbW31
                have HWW31 := Lib.hid hW31; clear hW31
                rw [HWW31.out]
                clear d0 d1 d2 d3 d4 d5 d6 d7 d8 d9 d10 d11 d12
                have zsW31 := SBW31.out.size
                obtain ⟨bq, oq, eq_, lbq, hcq⟩ := (HL3.out.below SBW31.out).resolve_left (by omega)
                cases eq_
                replace hcq := hcq j hl3
                simp only [hY] at hcq
                clear hY
                have d0 : W31.cell? ⟨bq, oq + j * 13, none⟩ = some (.int .i64 Y.sl) := hcq 0 (by omega)
                have d1 : W31.cell? ⟨bq, oq + j * 13 + 1, none⟩ = some (.int .i64 Y.sh) := hcq 1 (by omega)
                have d2 : W31.cell? ⟨bq, oq + j * 13 + 2, none⟩ = some (.int .i64 Y.el) := hcq 2 (by omega)
                have d3 : W31.cell? ⟨bq, oq + j * 13 + 3, none⟩ = some (.int .i64 Y.eh) := hcq 3 (by omega)
                have d4 : W31.cell? ⟨bq, oq + j * 13 + 4, none⟩ = some (.int .i64 Y.pl) := hcq 4 (by omega)
                have d5 : W31.cell? ⟨bq, oq + j * 13 + 5, none⟩ = some (.int .i64 Y.ph) := hcq 5 (by omega)
                have d6 : W31.cell? ⟨bq, oq + j * 13 + 6, none⟩ = some (.int .i64 Y.gl) := hcq 6 (by omega)
                have d7 : W31.cell? ⟨bq, oq + j * 13 + 7, none⟩ = some (.int .i64 Y.gh) := hcq 7 (by omega)
                have d8 : W31.cell? ⟨bq, oq + j * 13 + 8, none⟩ = some (.int .i64 Y.ol) := hcq 8 (by omega)
                have d9 : W31.cell? ⟨bq, oq + j * 13 + 9, none⟩ = some (.int .i64 Y.oh) := hcq 9 (by omega)
                have d10 : W31.cell? ⟨bq, oq + j * 13 + 10, none⟩ = some (.int .i64 Y.tl) := hcq 10 (by omega)
                have d11 : W31.cell? ⟨bq, oq + j * 13 + 11, none⟩ = some (.int .i64 Y.th) := hcq 11 (by omega)
                have d12 : W31.cell? ⟨bq, oq + j * 13 + 12, none⟩ = some (.int .i64 Y.c) := hcq 12 (by omega)
                clear hcq
                go_upto_region 29 with (fail)
                obtain ⟨W32, hW32⟩ : ∃ W32, ((W31)).alloc (.cells #[.int .i64 Y.sl, .int .i64 Y.sh, .int .i64 Y.el, .int .i64 Y.eh, .int .i64 Y.pl, .int .i64 Y.ph, .int .i64 Y.gl, .int .i64 Y.gh, .int .i64 Y.ol, .int .i64 Y.oh, .int .i64 Y.tl, .int .i64 Y.th, .int .i64 Y.c] 38) = W32 := ⟨_, rfl⟩
                have hbW32 : Below W31.heap.size W31 W32 := by rw [← hW32]; exact (Below.refl _ W31).alloc (by simp [gw_size]) _
                have ZmW32 := Lib.hid ((hbW32.block _ (Array.getElem?_eq_some_iff.1 ZmW31.out).1).trans ZmW31.out)
                have zlW32 : W32.heap[W31.heap.size]? = some (.cells #[.int .i64 Y.sl, .int .i64 Y.sh, .int .i64 Y.el, .int .i64 Y.eh, .int .i64 Y.pl, .int .i64 Y.ph, .int .i64 Y.gl, .int .i64 Y.gh, .int .i64 Y.ol, .int .i64 Y.oh, .int .i64 Y.tl, .int .i64 Y.th, .int .i64 Y.c] 38 (0, 0)) := by rw [← hW32]; exact alloc_at (by simp [gw_size])
                have ZlW32 := Lib.hid zlW32; clear zlW32
                have HBW32 := Lib.hid (thru hbW32 HBW31.out)
                have SBW32 := Lib.hid hbW32; clear hbW32
                have HWW32 := Lib.hid hW32; clear hW32
                rw [HWW32.out]
                clear d0 d1 d2 d3 d4 d5 d6 d7 d8 d9 d10 d11 d12
                have zsW32 := SBW32.out.size
                have em0W32 : W32.cell? ⟨u3.heap.size + x.bs.size, 0, none⟩ = some (.int .i64 Z.sl) := cell_of_block ZmW32.out 0 (by simp)
                have em1W32 : W32.cell? ⟨u3.heap.size + x.bs.size, 1, none⟩ = some (.int .i64 Z.sh) := cell_of_block ZmW32.out 1 (by simp)
                have em2W32 : W32.cell? ⟨u3.heap.size + x.bs.size, 2, none⟩ = some (.int .i64 Z.el) := cell_of_block ZmW32.out 2 (by simp)
                have em3W32 : W32.cell? ⟨u3.heap.size + x.bs.size, 3, none⟩ = some (.int .i64 Z.eh) := cell_of_block ZmW32.out 3 (by simp)
                have em4W32 : W32.cell? ⟨u3.heap.size + x.bs.size, 4, none⟩ = some (.int .i64 Z.pl) := cell_of_block ZmW32.out 4 (by simp)
                have em5W32 : W32.cell? ⟨u3.heap.size + x.bs.size, 5, none⟩ = some (.int .i64 Z.ph) := cell_of_block ZmW32.out 5 (by simp)
                have em6W32 : W32.cell? ⟨u3.heap.size + x.bs.size, 6, none⟩ = some (.int .i64 Z.gl) := cell_of_block ZmW32.out 6 (by simp)
                have em7W32 : W32.cell? ⟨u3.heap.size + x.bs.size, 7, none⟩ = some (.int .i64 Z.gh) := cell_of_block ZmW32.out 7 (by simp)
                have em8W32 : W32.cell? ⟨u3.heap.size + x.bs.size, 8, none⟩ = some (.int .i64 Z.ol) := cell_of_block ZmW32.out 8 (by simp)
                have em9W32 : W32.cell? ⟨u3.heap.size + x.bs.size, 9, none⟩ = some (.int .i64 Z.oh) := cell_of_block ZmW32.out 9 (by simp)
                have em10W32 : W32.cell? ⟨u3.heap.size + x.bs.size, 10, none⟩ = some (.int .i64 Z.tl) := cell_of_block ZmW32.out 10 (by simp)
                have em11W32 : W32.cell? ⟨u3.heap.size + x.bs.size, 11, none⟩ = some (.int .i64 Z.th) := cell_of_block ZmW32.out 11 (by simp)
                have em12W32 : W32.cell? ⟨u3.heap.size + x.bs.size, 12, none⟩ = some (.int .i64 Z.c) := cell_of_block ZmW32.out 12 (by simp)
                have lmW32 := (Array.getElem?_eq_some_iff.1 ZmW32.out).1
                have el0W32 : W32.cell? ⟨W31.heap.size, 0, none⟩ = some (.int .i64 Y.sl) := cell_of_block ZlW32.out 0 (by simp)
                have el1W32 : W32.cell? ⟨W31.heap.size, 1, none⟩ = some (.int .i64 Y.sh) := cell_of_block ZlW32.out 1 (by simp)
                have el2W32 : W32.cell? ⟨W31.heap.size, 2, none⟩ = some (.int .i64 Y.el) := cell_of_block ZlW32.out 2 (by simp)
                have el3W32 : W32.cell? ⟨W31.heap.size, 3, none⟩ = some (.int .i64 Y.eh) := cell_of_block ZlW32.out 3 (by simp)
                have el4W32 : W32.cell? ⟨W31.heap.size, 4, none⟩ = some (.int .i64 Y.pl) := cell_of_block ZlW32.out 4 (by simp)
                have el5W32 : W32.cell? ⟨W31.heap.size, 5, none⟩ = some (.int .i64 Y.ph) := cell_of_block ZlW32.out 5 (by simp)
                have el6W32 : W32.cell? ⟨W31.heap.size, 6, none⟩ = some (.int .i64 Y.gl) := cell_of_block ZlW32.out 6 (by simp)
                have el7W32 : W32.cell? ⟨W31.heap.size, 7, none⟩ = some (.int .i64 Y.gh) := cell_of_block ZlW32.out 7 (by simp)
                have el8W32 : W32.cell? ⟨W31.heap.size, 8, none⟩ = some (.int .i64 Y.ol) := cell_of_block ZlW32.out 8 (by simp)
                have el9W32 : W32.cell? ⟨W31.heap.size, 9, none⟩ = some (.int .i64 Y.oh) := cell_of_block ZlW32.out 9 (by simp)
                have el10W32 : W32.cell? ⟨W31.heap.size, 10, none⟩ = some (.int .i64 Y.tl) := cell_of_block ZlW32.out 10 (by simp)
                have el11W32 : W32.cell? ⟨W31.heap.size, 11, none⟩ = some (.int .i64 Y.th) := cell_of_block ZlW32.out 11 (by simp)
                have el12W32 : W32.cell? ⟨W31.heap.size, 12, none⟩ = some (.int .i64 Y.c) := cell_of_block ZlW32.out 12 (by simp)
                have llW32 := (Array.getElem?_eq_some_iff.1 ZlW32.out).1
                have nc : (Z.c != Y.c) = false := by have := NN.out.c; simp; omega
                go_wp2_with fail
                refine (Calls.grown (nin_any NN.out.s _)).mono ?_
                rintro e w1 ⟨rfl, z1, rfl⟩
                go_wp2_with fail
                refine (Calls.gw_of (nin_any NN.out.e _)).mono ?_
                rintro e w1 ⟨rfl, z2, rfl⟩
                go_wp2_with fail
                refine (Calls.gw_of (nin_any NN.out.p _)).mono ?_
                rintro e w1 ⟨rfl, z3, rfl⟩
                go_wp2_with fail
                refine (Calls.gw_of (nin_any NN.out.g _)).mono ?_
                rintro e w1 ⟨rfl, z4, rfl⟩
                go_wp2_with fail
                refine (Calls.gw_of (nin_any NN.out.o _)).mono ?_
                rintro e w1 ⟨rfl, z5, rfl⟩
                go_wp2_with fail
                refine (Calls.gw_of (nin_any NN.out.t _)).mono ?_
                rintro e w1 ⟨rfl, z6, rfl⟩
                go_wp2_with fail
                obtain ⟨x9, hx9⟩ := gw_of_below (thru (below_gw W32 z6) (thru SBW32.out SBW31.out))
                have HX9 := Lib.hid hx9; clear hx9
                go_roundw
                case rel => exact ⟨j + 1, by omega, by go_num, x9, HX9.out⟩
                case measure => simp [intOf]; omega
            obtain ⟨bc, oc, rfl, lbc, hcc⟩ := HS.out.resolve_left (by omega)
            have q0 := ((thru KC.out.low SW3.out).cell (p := ⟨bc, oc + j * 2, none⟩) lbc).trans (hcc j hlt).1
            have q1 := ((thru KC.out.low SW3.out).cell (p := ⟨bc, oc + j * 2 + 1, none⟩) lbc).trans (hcc j hlt).2
            clear hcc
            have rr := spanB_t.1 (allB_t.1 HCC.out j hlt)
            obtain ⟨f, hf0⟩ : ∃ f, F j = f := ⟨_, rfl⟩
            obtain ⟨g, hg0⟩ : ∃ g, G j = g := ⟨_, rfl⟩
            rw [hf0] at q0
            rw [hg0] at q1
            rw [hf0, hg0] at rr
            have lbc2 : bc < wr.heap.size := Nat.lt_of_lt_of_le lbc (thru KC.out.low SW3.out).size
            have F0 := Lib.hid hf0; have G0_ := Lib.hid hg0; clear hf0 hg0
            have HBs := Lib.hid (thru (thru KC.out.low SW3.out) HBc.out)
            go_upto_region 19 with (fail)
            obtain ⟨W21, hW21⟩ : ∃ W21, ((wr)).alloc (.cells #[.int .i64 f, .int .i64 g] 23) = W21 := ⟨_, rfl⟩
            have hbW21 : Below wr.heap.size wr W21 := by rw [← hW21]; exact (Below.refl _ wr).alloc (by simp [gw_size]) _
            have zrW21 : W21.heap[wr.heap.size]? = some (.cells #[.int .i64 f, .int .i64 g] 23 (0, 0)) := by rw [← hW21]; exact alloc_at (by simp [gw_size])
            have ZrW21 := Lib.hid zrW21; clear zrW21
            have HBW21 := Lib.hid (thru hbW21 HBs.out)
            have SBW21 := Lib.hid hbW21; clear hbW21
            have HWW21 := Lib.hid hW21; clear hW21
            rw [HWW21.out]
            clear q0 q1
            have zsW21 := SBW21.out.size
            have er0W21 : W21.cell? ⟨wr.heap.size, 0, none⟩ = some (.int .i64 f) := cell_of_block ZrW21.out 0 (by simp)
            have er1W21 : W21.cell? ⟨wr.heap.size, 1, none⟩ = some (.int .i64 g) := cell_of_block ZrW21.out 1 (by simp)
            have lrW21 := (Array.getElem?_eq_some_iff.1 ZrW21.out).1
            have K1 := Lib.hid (KC.out.below SBW21.out); have O1 := Lib.hid (own_below RC.out SBW21.out)
            go_wp2_with fail
            refine (CUT.out (18 + 2 * y.nR + 2 * j) f g (by omega) (by omega) (by omega) (by omega) W21 K1.out).mono ?_
            rintro e p2 ⟨a, b, rfl, na, hk2, hg2⟩
            have O2 := Lib.hid (O1.out.kept hg2 (.inr (fun e => by have := (O1.out.lt _ e).1; omega))); have s2 := hg2.size
            have OBJ := below_alloc p2 (.cells #[.int .i64 a, .int .i64 b] 23)
            have K3 := Lib.hid (hk2.below OBJ)
            have G3 := Lib.hid (grownBy_trans (grownBy_trans (grownBy_trans GC.out (grownBy_of_below SBW21.out _)) hg2) (grownBy_of_below OBJ _))
            have NA := Lib.hid na; clear hk2 hg2 na OBJ
            go_wp2_with (at_builtin; refine wpList_append_own _ rfl _ _ 34 rfl W8.heap.size 23 j0 (.agg #[.int .i64 0, .int .i64 0]) 2 16 Try.underlying34 JI.out Y0.out Y1.out Y2.out rfl (by decide) _ j (spansV j F' G') rfl (O2.out.alloc _) ⟨p2.heap.size, 0, none⟩ 1 1 [.int .i64 a, .int .i64 b] rfl rfl (news_lit _ _ _) (by simp [Value.oneCell']) (by unfold maxLen; omega) (by omega) (by simp; omega) ?_; intro v9 w9 hown9 hgrow9 _)
            rw [spansV_push] at hown9
            obtain ⟨a9, c9, rfl⟩ := own_form hown9
            have K9 := Lib.hid ((K3.out.row hgrow9 (fun g hg => by have := (O2.out.lt g hg).1; omega)).mono (show 18 + 2 * y.nR + 2 * j + 2 ≤ 18 + 2 * y.nR + 2 * (j + 1) by omega))
            have G9 := Lib.hid (grownBy_row G3.out hgrow9 (fun g hg => (O2.out.lt g hg).1))
            have N9 := Lib.hid (nar_push NC.out (by rw [F0.out, G0_.out]; exact NA.out))
            have O9 := Lib.hid hown9; clear hown9 hgrow9
            go_wp2_with fail
            go_roundw
            case rel => first | exact ⟨j + 1, a9, c9, _, _, by omega, rfl, by go_num, O9, N9, K9, G9⟩ | exact ⟨j + 1, by omega, a9, c9, _, _, rfl, by go_num, O9, N9, K9, G9⟩ | exact ⟨j + 1, by omega, a9, c9, rfl, by go_num, _, _, O9, N9, K9, G9⟩
            case measure => simp [intOf]; omega
      obtain ⟨f, hf0⟩ : ∃ f, y.A j = f := ⟨_, rfl⟩
      obtain ⟨g, hg0⟩ : ∃ g, y.B j = g := ⟨_, rfl⟩
      have q0 := ((thru KR.out.low SW3.out).cell (p := ⟨br, ofr + j * 2, none⟩) lbr).trans (HCR.out j hlt).1
      have q1 := ((thru KR.out.low SW3.out).cell (p := ⟨br, ofr + j * 2 + 1, none⟩) lbr).trans (HCR.out j hlt).2
      have rr := y12 j hlt
      rw [hf0] at q0
      rw [hg0] at q1
      rw [hf0, hg0] at rr
      have lbr2 : br < wr.heap.size := Nat.lt_of_lt_of_le lbr (thru KR.out.low SW3.out).size
      have F0 := Lib.hid hf0; have G0_ := Lib.hid hg0; clear hf0 hg0
      have HBr := Lib.hid (thru (thru KR.out.low SW3.out) HBc.out)
      go_upto_region 12 with (fail)
      obtain ⟨W6, hW6⟩ : ∃ W6, ((wr)).alloc (.cells #[.int .i64 f, .int .i64 g] 23) = W6 := ⟨_, rfl⟩
      have hbW6 : Below wr.heap.size wr W6 := by rw [← hW6]; exact (Below.refl _ wr).alloc (by simp [gw_size]) _
      have ZzW6 := Lib.hid ((hbW6.block _ (Array.getElem?_eq_some_iff.1 ZBr.out).1).trans ZBr.out)
      have zrW6 : W6.heap[wr.heap.size]? = some (.cells #[.int .i64 f, .int .i64 g] 23 (0, 0)) := by rw [← hW6]; exact alloc_at (by simp [gw_size])
      have ZrW6 := Lib.hid zrW6; clear zrW6
      have HBW6 := Lib.hid (thru hbW6 HBr.out)
      have SBW6 := Lib.hid hbW6; clear hbW6
      have HWW6 := Lib.hid hW6; clear hW6
      rw [HWW6.out]
      clear q0 q1
      have zsW6 := SBW6.out.size
      have ez0W6 : W6.cell? ⟨B, 0, none⟩ = some (.slice y.aT y.nT y.cT) := cell_of_block ZzW6.out 0 (by simp)
      have ez1W6 : W6.cell? ⟨B, 1, none⟩ = some (.slice aZ j cZ) := cell_of_block ZzW6.out 1 (by simp)
      have ez2W6 : W6.cell? ⟨B, 2, none⟩ = some (.int .i64 z0) := cell_of_block ZzW6.out 2 (by simp)
      have ez3W6 : W6.cell? ⟨B, 3, none⟩ = some (.int .i64 z1) := cell_of_block ZzW6.out 3 (by simp)
      have ez4W6 : W6.cell? ⟨B, 4, none⟩ = some (.int .i64 z2) := cell_of_block ZzW6.out 4 (by simp)
      have ez5W6 : W6.cell? ⟨B, 5, none⟩ = some (.int .i64 z3) := cell_of_block ZzW6.out 5 (by simp)
      have ez6W6 : W6.cell? ⟨B, 6, none⟩ = some (.int .i64 z4) := cell_of_block ZzW6.out 6 (by simp)
      have ez7W6 : W6.cell? ⟨B, 7, none⟩ = some (.int .i64 z5) := cell_of_block ZzW6.out 7 (by simp)
      have lzW6 := (Array.getElem?_eq_some_iff.1 ZzW6.out).1
      have er0W6 : W6.cell? ⟨wr.heap.size, 0, none⟩ = some (.int .i64 f) := cell_of_block ZrW6.out 0 (by simp)
      have er1W6 : W6.cell? ⟨wr.heap.size, 1, none⟩ = some (.int .i64 g) := cell_of_block ZrW6.out 1 (by simp)
      have lrW6 := (Array.getElem?_eq_some_iff.1 ZrW6.out).1
      haveI hne : Nonempty (KeepW W6 [B, wr.heap.size]) := ⟨⟨W6, fun _ _ => rfl⟩⟩
      refine wp_region_steps (fun w' => ∃ x : KeepW W6 [B, wr.heap.size], w' = x.w) [([0, 1, 2, 3], 4), ([], 5), ([], 6)] [7] [8] (by kernel_rfl) (by kernel_rfl) ?_
      rintro _ ⟨qq, rfl⟩
      obtain ⟨p1, hp1⟩ : ∃ z, gw W6 qq = z := ⟨_, rfl⟩
      have b1 := below_gw W6 qq
      rw [hp1] at b1 ⊢
      clear hp1 qq
      have Z1 := Lib.hid ((b1.block B (Array.getElem?_eq_some_iff.1 ZzW6.out).1).trans ZzW6.out); have R1 := Lib.hid ((b1.block (wr.heap.size) (Array.getElem?_eq_some_iff.1 ZrW6.out).1).trans ZrW6.out)
      have K1 := Lib.hid (KR.out.below (thru b1 SBW6.out)); have O1 := Lib.hid (own_below RW.out (thru b1 SBW6.out)); have s1 := b1.size; have lo0 := fun g hg => (RW.out.lt g hg).2; clear b1
      have LO := Lib.hid lo0; clear lo0
      refine ⟨keep2 (Z1.out.trans ZzW6.out.symm) (R1.out.trans ZrW6.out.symm), ?_⟩
      refine wpSeg_cons ?_
      simp only [pickL, List.getElem?_cons_zero, List.getElem?_cons_succ]
      repeat (go_big_quiet_step (fail))
      refine wpQuiet_nil ?_
      go_wp2_with fail
      rename_i KK hKK
      refine (CUT.out (6 + 2 * j) f g (by omega) (by omega) (by omega) (by omega) p1 K1.out).mono ?_
      rintro e p2 ⟨a, b, rfl, na, hk2, hg2⟩
      have K2 := Lib.hid hk2; have NA := Lib.hid na; clear hk2 na
      have Z2 := Lib.hid ((hg2.block B (Array.getElem?_eq_some_iff.1 Z1.out).1 (by simp <;> omega)).trans Z1.out); have R2 := Lib.hid ((hg2.block (wr.heap.size) (Array.getElem?_eq_some_iff.1 R1.out).1 (by simp <;> omega)).trans R1.out); have O2 := Lib.hid (O1.out.kept hg2 (.inr (fun e => by have := (O1.out.lt _ e).1; omega))); have s2 := hg2.size; clear hg2
      refine hKK _ _ (contQ_nil ⟨keep2 (Z2.out.trans ZzW6.out.symm) (R2.out.trans ZrW6.out.symm), ?_⟩)
      clear hKK KK
      refine wpSeg_cons ?_
      simp only [pickL, List.getElem?_cons_zero, List.getElem?_cons_succ]
      repeat (go_big_quiet_step (fail))
      refine wpQuiet_nil ?_
      go_wp2_with fail
      have b3 := below_alloc p2 (.cells #[.int .i64 a, .int .i64 b] 23)
      have Z3 := Lib.hid ((b3.block B (Array.getElem?_eq_some_iff.1 Z2.out).1).trans Z2.out); have R3 := Lib.hid ((b3.block (wr.heap.size) (Array.getElem?_eq_some_iff.1 R2.out).1).trans R2.out); have K3 := Lib.hid (K2.out.below b3); clear b3
      refine contQ_now ⟨keep2 (Z3.out.trans ZzW6.out.symm) (R3.out.trans ZrW6.out.symm), ?_⟩
      refine wpSeg_cons ?_
      simp only [pickL, List.getElem?_cons_zero, List.getElem?_cons_succ]
      repeat (go_big_quiet_step (fail))
      refine wpQuiet_nil ?_
      go_wp2_with (at_builtin; refine wpList_append_own _ rfl _ _ 34 rfl W5.heap.size 23 j0 (.agg #[.int .i64 0, .int .i64 0]) 2 16 Try.underlying34 JI.out Y0.out Y1.out Y2.out rfl (by decide) _ j (spansV j A' B') rfl (O2.out.alloc _) ⟨p2.heap.size, 0, none⟩ 1 1 [.int .i64 a, .int .i64 b] rfl rfl (news_lit _ _ _) (by simp [Value.oneCell']) (by unfold maxLen; omega) (by omega) (by simp; omega) ?_; intro v9 w9 hown9 hgrow9 _)
      rw [spansV_push] at hown9
      obtain ⟨a9, c9, rfl⟩ := own_form hown9
      have s9 := hgrow9.size
      simp at s9
      have Z9 := Lib.hid ((hgrow9.block B (Array.getElem?_eq_some_iff.1 Z3.out).1 (by have := row_low O2.out (B := B) (by omega); first | exact this | exact Ne.symm this)).trans Z3.out)
      have R9 := Lib.hid ((hgrow9.block (wr.heap.size) (Array.getElem?_eq_some_iff.1 R3.out).1 (fun e => by have := LO.out _ e.symm; omega)).trans R3.out)
      have K9 := Lib.hid (K3.out.row hgrow9 (fun g hg => by have := (O2.out.lt g hg).1; omega)); have O9 := Lib.hid hown9; clear hown9 hgrow9
      refine contQ_now ⟨keep2 (Z9.out.trans ZzW6.out.symm) (R9.out.trans ZrW6.out.symm), ?_⟩
      refine wpSeg_nil ?_
      simp only [pickL, List.getElem?_cons_zero, List.getElem?_cons_succ]
      repeat (go_big_quiet_step (fail))
      refine wpQuiet_nil ?_
      have e9 := cell_of_block Z9.out 1 (by simp)
      have f9 := frozen_of_block Z9.out 1
      have l9 := (Array.getElem?_eq_some_iff.1 Z9.out).1
      go_wp2_with fail
      refine noPanic_now ?_
      obtain ⟨p5, hp5⟩ : ∃ z, w9.setCell ⟨B, 1, none⟩ (.slice a9 (j + 1) c9) = z := ⟨_, rfl⟩
      have g5 : w9.grownBy p5 (some B) := by rw [← hp5]; exact grownBy_set _ _ _ _
      have Z5 := Lib.hid (show p5.heap[B]? = some (.cells #[.slice y.aT y.nT y.cT, .slice a9 (j + 1) c9, .int .i64 z0, .int .i64 z1, .int .i64 z2, .int .i64 z3, .int .i64 z4, .int .i64 z5] 36 (0, 0)) by rw [← hp5]; exact block_set 1 _ Z9.out)
      have K10 := Lib.hid ((K9.out.far g5 (by omega) (by omega) (by omega)).mono (show 6 + 2 * j + 2 ≤ 6 + 2 * (j + 1) by omega)); have O10 := Lib.hid (O9.out.kept g5 (.inr (fun e => by have := (O9.out.lt _ e).1; omega))); have s10 := g5.size
      rw [hp5]
      clear hp5 g5 e9 f9
      have N10 := Lib.hid (nar_push NR.out (by rw [F0.out, G0_.out]; exact NA.out))
      go_wp2_with fail
      go_roundw
      case rel => first | exact ⟨j + 1, a9, c9, _, _, by omega, by go_num, Z5, O10, N10, K10, by omega⟩ | exact ⟨j + 1, by omega, by go_num, a9, c9, _, _, Z5, O10, N10, K10, by omega⟩
      case measure => simp [intOf]; omega
end Go.Proofs.Ytecbacbecopbeaa
