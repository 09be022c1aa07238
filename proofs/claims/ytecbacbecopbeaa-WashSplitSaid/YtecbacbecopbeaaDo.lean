/- WashHours walked: it returns true. No conditions beyond each theorem's own. -/
import Derived.Test.YtecbacbecopbeaaCd
import Derived.Test.YtecbacbecopbeaaCf
import Derived.Test.YtecbacbecopbeaaBq
set_option linter.unusedVariables false
set_option linter.unusedSimpArgs false
set_option linter.unusedSectionVars false
set_option linter.constructorNameAsVariable false
namespace Go.Proofs.Ytecbacbecopbeaa
open Go.RowKit

attribute [local go_sem] gw_cell gw_frozen gw_size

/-- Ferment's vats as a list -/
theorem fer_list {y : Yst} {v : Vat} {k : Nat} {F G : Nat → Int} {w : World} {e : Ending} {w' : World} (h : FerR y v k F G w e w') :
    ∃ a c, e = .returned (.tuple #[.slice a (ferN y v k F G) c, .int .i64 (ferE y v k F G)]) ∧ TupsAt w' a 13 (ferN y v k F G) (fun i q => (y.vs v F G (i + 1)).num q) ∧ Below w.heap.size w w' := by
  obtain ⟨vl, rfl, hO, hB⟩ := h
  obtain ⟨a, c, rfl, hS⟩ := tups_of_own hO
  exact ⟨a, c, rfl, hS, hB⟩
theorem ferN_le (y : Yst) (v : Vat) (k : Nat) (F G : Nat → Int) : ferN y v k F G ≤ k := by unfold ferN; split <;> omega

set_option maxRecDepth 100000 in
set_option maxHeartbeats 16000000 in
theorem hours_any (y : Yst) (v : Vat) (aS : Option Addr) (k cS : Nat) (F G : Nat → Int) (ol oh ll lh : Int) (w : World) (hI : y.In w) (hf : y.Fits) (hS : SpansAt w aS k F G) (hk : k ≤ 9223372036854775807) :
    Calls Try.prog 8 #[y.val, v.val, .slice aS k cS, .agg #[.int .i64 ol, .int .i64 oh], .agg #[.int .i64 ll, .int .i64 lh]] w (True1 w) := by
  have LG := fun w => long3_any k 40 200 w hk (by omega)
  unfold Yst.val Vat.val
  obtain ⟨W1, hW1⟩ : ∃ W1, (((w.alloc (.cells #[.slice y.aT y.nT y.cT, .slice y.aR y.nR y.cR, .int .i64 y.sl, .int .i64 y.sh, .int .i64 y.gl, .int .i64 y.gh, .int .i64 y.hl, .int .i64 y.hh] 36)).alloc (.cells #[.int .i64 v.sl, .int .i64 v.sh, .int .i64 v.el, .int .i64 v.eh, .int .i64 v.pl, .int .i64 v.ph, .int .i64 v.gl, .int .i64 v.gh, .int .i64 v.ol, .int .i64 v.oh, .int .i64 v.tl, .int .i64 v.th, .int .i64 v.c] 38)).alloc (.cells #[.int .i64 ol, .int .i64 oh] 23)).alloc (.cells #[.int .i64 ll, .int .i64 lh] 23) = W1 := ⟨_, rfl⟩
  have hBc : Below w.heap.size w W1 := by rw [← hW1]; exact (((below_alloc _ _).alloc (by simp) _).alloc (by simp <;> omega) _).alloc (by simp <;> omega) _
  have zc0 : W1.heap[w.heap.size]? = some (.cells #[.slice y.aT y.nT y.cT, .slice y.aR y.nR y.cR, .int .i64 y.sl, .int .i64 y.sh, .int .i64 y.gl, .int .i64 y.gh, .int .i64 y.hl, .int .i64 y.hh] 36 (0, 0)) := by rw [← hW1]; exact alloc_keep (alloc_keep (alloc_keep (alloc_at rfl)))
  have zc1 : W1.heap[w.heap.size + 1]? = some (.cells #[.int .i64 v.sl, .int .i64 v.sh, .int .i64 v.el, .int .i64 v.eh, .int .i64 v.pl, .int .i64 v.ph, .int .i64 v.gl, .int .i64 v.gh, .int .i64 v.ol, .int .i64 v.oh, .int .i64 v.tl, .int .i64 v.th, .int .i64 v.c] 38 (0, 0)) := by rw [← hW1]; exact alloc_keep (alloc_keep (alloc_at (by simp)))
  have zc2 : W1.heap[w.heap.size + 1 + 1]? = some (.cells #[.int .i64 ol, .int .i64 oh] 23 (0, 0)) := by rw [← hW1]; exact alloc_keep (alloc_at (by simp <;> omega))
  have zc3 : W1.heap[w.heap.size + 1 + 1 + 1]? = some (.cells #[.int .i64 ll, .int .i64 lh] 23 (0, 0)) := by rw [← hW1]; exact alloc_at (by simp <;> omega)
  have c00 : W1.cell? ⟨w.heap.size, 0, none⟩ = some (.slice y.aT y.nT y.cT) := cell_of_block zc0 0 (by simp)
  have c01 : W1.cell? ⟨w.heap.size, 1, none⟩ = some (.slice y.aR y.nR y.cR) := cell_of_block zc0 1 (by simp)
  have c02 : W1.cell? ⟨w.heap.size, 2, none⟩ = some (.int .i64 y.sl) := cell_of_block zc0 2 (by simp)
  have c03 : W1.cell? ⟨w.heap.size, 3, none⟩ = some (.int .i64 y.sh) := cell_of_block zc0 3 (by simp)
  have c04 : W1.cell? ⟨w.heap.size, 4, none⟩ = some (.int .i64 y.gl) := cell_of_block zc0 4 (by simp)
  have c05 : W1.cell? ⟨w.heap.size, 5, none⟩ = some (.int .i64 y.gh) := cell_of_block zc0 5 (by simp)
  have c06 : W1.cell? ⟨w.heap.size, 6, none⟩ = some (.int .i64 y.hl) := cell_of_block zc0 6 (by simp)
  have c07 : W1.cell? ⟨w.heap.size, 7, none⟩ = some (.int .i64 y.hh) := cell_of_block zc0 7 (by simp)
  have c10 : W1.cell? ⟨w.heap.size + 1, 0, none⟩ = some (.int .i64 v.sl) := cell_of_block zc1 0 (by simp)
  have c11 : W1.cell? ⟨w.heap.size + 1, 1, none⟩ = some (.int .i64 v.sh) := cell_of_block zc1 1 (by simp)
  have c12 : W1.cell? ⟨w.heap.size + 1, 2, none⟩ = some (.int .i64 v.el) := cell_of_block zc1 2 (by simp)
  have c13 : W1.cell? ⟨w.heap.size + 1, 3, none⟩ = some (.int .i64 v.eh) := cell_of_block zc1 3 (by simp)
  have c14 : W1.cell? ⟨w.heap.size + 1, 4, none⟩ = some (.int .i64 v.pl) := cell_of_block zc1 4 (by simp)
  have c15 : W1.cell? ⟨w.heap.size + 1, 5, none⟩ = some (.int .i64 v.ph) := cell_of_block zc1 5 (by simp)
  have c16 : W1.cell? ⟨w.heap.size + 1, 6, none⟩ = some (.int .i64 v.gl) := cell_of_block zc1 6 (by simp)
  have c17 : W1.cell? ⟨w.heap.size + 1, 7, none⟩ = some (.int .i64 v.gh) := cell_of_block zc1 7 (by simp)
  have c18 : W1.cell? ⟨w.heap.size + 1, 8, none⟩ = some (.int .i64 v.ol) := cell_of_block zc1 8 (by simp)
  have c19 : W1.cell? ⟨w.heap.size + 1, 9, none⟩ = some (.int .i64 v.oh) := cell_of_block zc1 9 (by simp)
  have c110 : W1.cell? ⟨w.heap.size + 1, 10, none⟩ = some (.int .i64 v.tl) := cell_of_block zc1 10 (by simp)
  have c111 : W1.cell? ⟨w.heap.size + 1, 11, none⟩ = some (.int .i64 v.th) := cell_of_block zc1 11 (by simp)
  have c112 : W1.cell? ⟨w.heap.size + 1, 12, none⟩ = some (.int .i64 v.c) := cell_of_block zc1 12 (by simp)
  have c20 : W1.cell? ⟨w.heap.size + 1 + 1, 0, none⟩ = some (.int .i64 ol) := cell_of_block zc2 0 (by simp)
  have c21 : W1.cell? ⟨w.heap.size + 1 + 1, 1, none⟩ = some (.int .i64 oh) := cell_of_block zc2 1 (by simp)
  have c30 : W1.cell? ⟨w.heap.size + 1 + 1 + 1, 0, none⟩ = some (.int .i64 ll) := cell_of_block zc3 0 (by simp)
  have c31 : W1.cell? ⟨w.heap.size + 1 + 1 + 1, 1, none⟩ = some (.int .i64 lh) := cell_of_block zc3 1 (by simp)
  have lc0 := (Array.getElem?_eq_some_iff.1 zc0).1
  have lc1 := (Array.getElem?_eq_some_iff.1 zc1).1
  have lc2 := (Array.getElem?_eq_some_iff.1 zc2).1
  have lc3 := (Array.getElem?_eq_some_iff.1 zc3).1
  have Zc0 := Lib.hid zc0
  have Zc1 := Lib.hid zc1
  have Zc2 := Lib.hid zc2
  have Zc3 := Lib.hid zc3
  clear zc0 zc1 zc2 zc3
  have HBc := Lib.hid hBc; clear hBc
  have HWc := Lib.hid hW1; clear hW1
  have HO := fun W (hb : Below W1.heap.size W1 W) => Hour_any y v ol oh W ((hI.below HBc.out).below hb) hf
  have RH := fun W (hb : Below W1.heap.size W1 W) => rHour_any y v ol oh W ((hI.below HBc.out).below hb) hf
  have FER := fun W (hb : Below W1.heap.size W1 W) => (Ferment_any aS k cS F G y v W ((hI.below HBc.out).below hb) hf ((hS.below HBc.out).below hb) hk).mono (fun _ _ h => fer_list h)
  have RFE := fun W (hb : Below W1.heap.size W1 W) => (rFerment_any aS k cS F G y v W ((hI.below HBc.out).below hb) hf ((hS.below HBc.out).below hb) hk).mono (fun _ _ h => fer_list h)
  have FI := fun W (hb : Below W1.heap.size W1 W) => First_any aS k cS F G y v ll lh W ((hI.below HBc.out).below hb) hf ((hS.below HBc.out).below hb) hk
  have RFI := fun W (hb : Below W1.heap.size W1 W) => rFirst_any aS k cS F G y v ll lh W ((hI.below HBc.out).below hb) hf ((hS.below HBc.out).below hb) hk
  unfold FirR at FI RFI
  have nl := ferN_le y v k F G
  obtain ⟨H, hH⟩ : ∃ H, hourV y v ol oh = H := ⟨_, rfl⟩
  obtain ⟨HE, hHE⟩ : ∃ HE, hourE y v ol oh = HE := ⟨_, rfl⟩
  simp only [hH, hHE] at HO RH
  obtain ⟨N, hN⟩ : ∃ N, ferN y v k F G = N := ⟨_, rfl⟩
  obtain ⟨E, hE⟩ : ∃ E, ferE y v k F G = E := ⟨_, rfl⟩
  simp only [hN, hE] at FER RFE nl
  obtain ⟨FN, hFN⟩ : ∃ FN, firstN y v k F G ll lh = FN := ⟨_, rfl⟩
  obtain ⟨FE, hFE⟩ : ∃ FE, firstE y v k F G ll lh = FE := ⟨_, rfl⟩
  simp only [hFN, hFE] at FI RFI
  clear hH hHE hN hE hFN hFE hI hS
  unfold Yst.val Vat.val at HO RH FER RFE FI RFI
  have HO' := Lib.hid HO; clear HO
  have RH' := Lib.hid RH; clear RH
  have FER' := Lib.hid FER; clear FER
  have RFE' := Lib.hid RFE; clear RFE
  have FI' := Lib.hid FI; clear FI
  have RFI' := Lib.hid RFI; clear RFI
  by_cases n1 : 20 < y.nT
  · skip
    go_enter Try.func8, Try.ntmps8
    go_upto_region 1 with (fail)
    rw [HWc.out]
    go_wp2_with fail
    refine (Calls.grown (alive_any _)).mono ?_
    rintro e w1 ⟨rfl, z1, rfl⟩
    go_wp2_with fail
    go_ret
    exact ⟨rfl, HBc.out.gw z1⟩
  by_cases n2 : 21 < y.nR
  · skip
    go_enter Try.func8, Try.ntmps8
    go_upto_region 1 with (fail)
    rw [HWc.out]
    go_wp2_with fail
    refine (Calls.grown (alive_any _)).mono ?_
    rintro e w1 ⟨rfl, z1, rfl⟩
    go_wp2_with fail
    go_ret
    exact ⟨rfl, HBc.out.gw z1⟩
  cases hl : longB k 40 200 with
  | true =>
    rw [hl] at LG
    have LG' := Lib.hid LG; clear LG hl
    go_enter Try.func8, Try.ntmps8
    go_upto_region 1 with (fail)
    rw [HWc.out]
    go_wp2_with fail
    refine (LG'.out _).mono ?_
    rintro e w1 ⟨rfl, rfl⟩
    go_wp2_with fail
    refine (Calls.grown (alive_any _)).mono ?_
    rintro e w1 ⟨rfl, z1, rfl⟩
    go_wp2_with fail
    go_ret
    exact ⟨rfl, HBc.out.gw z1⟩
  | false =>
    rw [hl] at LG
    have LG' := Lib.hid LG; clear LG hl
    go_enter Try.func8, Try.ntmps8
    go_upto_region 1 with (fail)
    rw [HWc.out]
    go_wp2_with fail
    refine (LG'.out _).mono ?_
    rintro e w1 ⟨rfl, rfl⟩
    go_wp2_with fail
    refine (Calls.grown (HO'.out _ (Below.refl _ W1))).mono ?_
    rintro e w1 ⟨rfl, z1, rfl⟩
    go_upto_region 4 with (fail)
    obtain ⟨W2, hW2⟩ : ∃ W2, ((gw W1 z1)).alloc (.cells #[.int .i64 H.sl, .int .i64 H.sh, .int .i64 H.el, .int .i64 H.eh, .int .i64 H.pl, .int .i64 H.ph, .int .i64 H.gl, .int .i64 H.gh, .int .i64 H.ol, .int .i64 H.oh, .int .i64 H.tl, .int .i64 H.th, .int .i64 H.c] 38) = W2 := ⟨_, rfl⟩
    have hbW2 : Below W1.heap.size W1 W2 := by rw [← hW2]; exact (below_gw W1 z1).alloc (by simp [gw_size]) _
    have ZyW2 := Lib.hid ((hbW2.block _ (Array.getElem?_eq_some_iff.1 Zc0.out).1).trans Zc0.out)
    have ZvW2 := Lib.hid ((hbW2.block _ (Array.getElem?_eq_some_iff.1 Zc1.out).1).trans Zc1.out)
    have ZoW2 := Lib.hid ((hbW2.block _ (Array.getElem?_eq_some_iff.1 Zc2.out).1).trans Zc2.out)
    have ZlW2 := Lib.hid ((hbW2.block _ (Array.getElem?_eq_some_iff.1 Zc3.out).1).trans Zc3.out)
    have zaW2 : W2.heap[W1.heap.size + z1.bs.size]? = some (.cells #[.int .i64 H.sl, .int .i64 H.sh, .int .i64 H.el, .int .i64 H.eh, .int .i64 H.pl, .int .i64 H.ph, .int .i64 H.gl, .int .i64 H.gh, .int .i64 H.ol, .int .i64 H.oh, .int .i64 H.tl, .int .i64 H.th, .int .i64 H.c] 38 (0, 0)) := by rw [← hW2]; exact alloc_at (by simp [gw_size])
    have ZaW2 := Lib.hid zaW2; clear zaW2
    have HBW2 := Lib.hid (thru hbW2 HBc.out)
    have SBW2 := Lib.hid hbW2; clear hbW2
    have HWW2 := Lib.hid hW2; clear hW2
    rw [HWW2.out]
    clear c00 c01 c02 c03 c04 c05 c06 c07 c10 c11 c12 c13 c14 c15 c16 c17 c18 c19 c110 c111 c112 c20 c21 c30 c31
    have S2 := Lib.hid SBW2.out
    have ey0W2 : W2.cell? ⟨w.heap.size, 0, none⟩ = some (.slice y.aT y.nT y.cT) := cell_of_block ZyW2.out 0 (by simp)
    have ey1W2 : W2.cell? ⟨w.heap.size, 1, none⟩ = some (.slice y.aR y.nR y.cR) := cell_of_block ZyW2.out 1 (by simp)
    have ey2W2 : W2.cell? ⟨w.heap.size, 2, none⟩ = some (.int .i64 y.sl) := cell_of_block ZyW2.out 2 (by simp)
    have ey3W2 : W2.cell? ⟨w.heap.size, 3, none⟩ = some (.int .i64 y.sh) := cell_of_block ZyW2.out 3 (by simp)
    have ey4W2 : W2.cell? ⟨w.heap.size, 4, none⟩ = some (.int .i64 y.gl) := cell_of_block ZyW2.out 4 (by simp)
    have ey5W2 : W2.cell? ⟨w.heap.size, 5, none⟩ = some (.int .i64 y.gh) := cell_of_block ZyW2.out 5 (by simp)
    have ey6W2 : W2.cell? ⟨w.heap.size, 6, none⟩ = some (.int .i64 y.hl) := cell_of_block ZyW2.out 6 (by simp)
    have ey7W2 : W2.cell? ⟨w.heap.size, 7, none⟩ = some (.int .i64 y.hh) := cell_of_block ZyW2.out 7 (by simp)
    have lyW2 := (Array.getElem?_eq_some_iff.1 ZyW2.out).1
    have ev0W2 : W2.cell? ⟨w.heap.size + 1, 0, none⟩ = some (.int .i64 v.sl) := cell_of_block ZvW2.out 0 (by simp)
    have ev1W2 : W2.cell? ⟨w.heap.size + 1, 1, none⟩ = some (.int .i64 v.sh) := cell_of_block ZvW2.out 1 (by simp)
    have ev2W2 : W2.cell? ⟨w.heap.size + 1, 2, none⟩ = some (.int .i64 v.el) := cell_of_block ZvW2.out 2 (by simp)
    have ev3W2 : W2.cell? ⟨w.heap.size + 1, 3, none⟩ = some (.int .i64 v.eh) := cell_of_block ZvW2.out 3 (by simp)
    have ev4W2 : W2.cell? ⟨w.heap.size + 1, 4, none⟩ = some (.int .i64 v.pl) := cell_of_block ZvW2.out 4 (by simp)
    have ev5W2 : W2.cell? ⟨w.heap.size + 1, 5, none⟩ = some (.int .i64 v.ph) := cell_of_block ZvW2.out 5 (by simp)
    have ev6W2 : W2.cell? ⟨w.heap.size + 1, 6, none⟩ = some (.int .i64 v.gl) := cell_of_block ZvW2.out 6 (by simp)
    have ev7W2 : W2.cell? ⟨w.heap.size + 1, 7, none⟩ = some (.int .i64 v.gh) := cell_of_block ZvW2.out 7 (by simp)
    have ev8W2 : W2.cell? ⟨w.heap.size + 1, 8, none⟩ = some (.int .i64 v.ol) := cell_of_block ZvW2.out 8 (by simp)
    have ev9W2 : W2.cell? ⟨w.heap.size + 1, 9, none⟩ = some (.int .i64 v.oh) := cell_of_block ZvW2.out 9 (by simp)
    have ev10W2 : W2.cell? ⟨w.heap.size + 1, 10, none⟩ = some (.int .i64 v.tl) := cell_of_block ZvW2.out 10 (by simp)
    have ev11W2 : W2.cell? ⟨w.heap.size + 1, 11, none⟩ = some (.int .i64 v.th) := cell_of_block ZvW2.out 11 (by simp)
    have ev12W2 : W2.cell? ⟨w.heap.size + 1, 12, none⟩ = some (.int .i64 v.c) := cell_of_block ZvW2.out 12 (by simp)
    have lvW2 := (Array.getElem?_eq_some_iff.1 ZvW2.out).1
    have eo0W2 : W2.cell? ⟨w.heap.size + 1 + 1, 0, none⟩ = some (.int .i64 ol) := cell_of_block ZoW2.out 0 (by simp)
    have eo1W2 : W2.cell? ⟨w.heap.size + 1 + 1, 1, none⟩ = some (.int .i64 oh) := cell_of_block ZoW2.out 1 (by simp)
    have loW2 := (Array.getElem?_eq_some_iff.1 ZoW2.out).1
    go_wp2_with fail
    refine (Calls.grown (RH'.out _ (S2.out))).mono ?_
    rintro e w1 ⟨rfl, z2, rfl⟩
    go_upto_region 5 with (fail)
    obtain ⟨W3, hW3⟩ : ∃ W3, ((gw W2 z2)).alloc (.cells #[.int .i64 H.sl, .int .i64 H.sh, .int .i64 H.el, .int .i64 H.eh, .int .i64 H.pl, .int .i64 H.ph, .int .i64 H.gl, .int .i64 H.gh, .int .i64 H.ol, .int .i64 H.oh, .int .i64 H.tl, .int .i64 H.th, .int .i64 H.c] 38) = W3 := ⟨_, rfl⟩
    have hbW3 : Below W2.heap.size W2 W3 := by rw [← hW3]; exact (below_gw W2 z2).alloc (by simp [gw_size]) _
    have ZyW3 := Lib.hid ((hbW3.block _ (Array.getElem?_eq_some_iff.1 ZyW2.out).1).trans ZyW2.out)
    have ZvW3 := Lib.hid ((hbW3.block _ (Array.getElem?_eq_some_iff.1 ZvW2.out).1).trans ZvW2.out)
    have ZoW3 := Lib.hid ((hbW3.block _ (Array.getElem?_eq_some_iff.1 ZoW2.out).1).trans ZoW2.out)
    have ZlW3 := Lib.hid ((hbW3.block _ (Array.getElem?_eq_some_iff.1 ZlW2.out).1).trans ZlW2.out)
    have ZaW3 := Lib.hid ((hbW3.block _ (Array.getElem?_eq_some_iff.1 ZaW2.out).1).trans ZaW2.out)
    have zbW3 : W3.heap[W2.heap.size + z2.bs.size]? = some (.cells #[.int .i64 H.sl, .int .i64 H.sh, .int .i64 H.el, .int .i64 H.eh, .int .i64 H.pl, .int .i64 H.ph, .int .i64 H.gl, .int .i64 H.gh, .int .i64 H.ol, .int .i64 H.oh, .int .i64 H.tl, .int .i64 H.th, .int .i64 H.c] 38 (0, 0)) := by rw [← hW3]; exact alloc_at (by simp [gw_size])
    have ZbW3 := Lib.hid zbW3; clear zbW3
    have HBW3 := Lib.hid (thru hbW3 HBW2.out)
    have SBW3 := Lib.hid hbW3; clear hbW3
    have HWW3 := Lib.hid hW3; clear hW3
    rw [HWW3.out]
    clear ey0W2 ey1W2 ey2W2 ey3W2 ey4W2 ey5W2 ey6W2 ey7W2 ev0W2 ev1W2 ev2W2 ev3W2 ev4W2 ev5W2 ev6W2 ev7W2 ev8W2 ev9W2 ev10W2 ev11W2 ev12W2 eo0W2 eo1W2
    have S3 := Lib.hid (S2.out.trans (SBW3.out.mono S2.out.size))
    have ey0W3 : W3.cell? ⟨w.heap.size, 0, none⟩ = some (.slice y.aT y.nT y.cT) := cell_of_block ZyW3.out 0 (by simp)
    have ey1W3 : W3.cell? ⟨w.heap.size, 1, none⟩ = some (.slice y.aR y.nR y.cR) := cell_of_block ZyW3.out 1 (by simp)
    have ey2W3 : W3.cell? ⟨w.heap.size, 2, none⟩ = some (.int .i64 y.sl) := cell_of_block ZyW3.out 2 (by simp)
    have ey3W3 : W3.cell? ⟨w.heap.size, 3, none⟩ = some (.int .i64 y.sh) := cell_of_block ZyW3.out 3 (by simp)
    have ey4W3 : W3.cell? ⟨w.heap.size, 4, none⟩ = some (.int .i64 y.gl) := cell_of_block ZyW3.out 4 (by simp)
    have ey5W3 : W3.cell? ⟨w.heap.size, 5, none⟩ = some (.int .i64 y.gh) := cell_of_block ZyW3.out 5 (by simp)
    have ey6W3 : W3.cell? ⟨w.heap.size, 6, none⟩ = some (.int .i64 y.hl) := cell_of_block ZyW3.out 6 (by simp)
    have ey7W3 : W3.cell? ⟨w.heap.size, 7, none⟩ = some (.int .i64 y.hh) := cell_of_block ZyW3.out 7 (by simp)
    have lyW3 := (Array.getElem?_eq_some_iff.1 ZyW3.out).1
    have ev0W3 : W3.cell? ⟨w.heap.size + 1, 0, none⟩ = some (.int .i64 v.sl) := cell_of_block ZvW3.out 0 (by simp)
    have ev1W3 : W3.cell? ⟨w.heap.size + 1, 1, none⟩ = some (.int .i64 v.sh) := cell_of_block ZvW3.out 1 (by simp)
    have ev2W3 : W3.cell? ⟨w.heap.size + 1, 2, none⟩ = some (.int .i64 v.el) := cell_of_block ZvW3.out 2 (by simp)
    have ev3W3 : W3.cell? ⟨w.heap.size + 1, 3, none⟩ = some (.int .i64 v.eh) := cell_of_block ZvW3.out 3 (by simp)
    have ev4W3 : W3.cell? ⟨w.heap.size + 1, 4, none⟩ = some (.int .i64 v.pl) := cell_of_block ZvW3.out 4 (by simp)
    have ev5W3 : W3.cell? ⟨w.heap.size + 1, 5, none⟩ = some (.int .i64 v.ph) := cell_of_block ZvW3.out 5 (by simp)
    have ev6W3 : W3.cell? ⟨w.heap.size + 1, 6, none⟩ = some (.int .i64 v.gl) := cell_of_block ZvW3.out 6 (by simp)
    have ev7W3 : W3.cell? ⟨w.heap.size + 1, 7, none⟩ = some (.int .i64 v.gh) := cell_of_block ZvW3.out 7 (by simp)
    have ev8W3 : W3.cell? ⟨w.heap.size + 1, 8, none⟩ = some (.int .i64 v.ol) := cell_of_block ZvW3.out 8 (by simp)
    have ev9W3 : W3.cell? ⟨w.heap.size + 1, 9, none⟩ = some (.int .i64 v.oh) := cell_of_block ZvW3.out 9 (by simp)
    have ev10W3 : W3.cell? ⟨w.heap.size + 1, 10, none⟩ = some (.int .i64 v.tl) := cell_of_block ZvW3.out 10 (by simp)
    have ev11W3 : W3.cell? ⟨w.heap.size + 1, 11, none⟩ = some (.int .i64 v.th) := cell_of_block ZvW3.out 11 (by simp)
    have ev12W3 : W3.cell? ⟨w.heap.size + 1, 12, none⟩ = some (.int .i64 v.c) := cell_of_block ZvW3.out 12 (by simp)
    have lvW3 := (Array.getElem?_eq_some_iff.1 ZvW3.out).1
    go_wp2_with fail
    refine (FER'.out _ S3.out).mono ?_
    rintro e u1 ⟨a1, c1, rfl, hT1, hB1⟩
    have HT1 := Lib.hid hT1; have HU1 := Lib.hid hB1; clear hT1 hB1
    clear ey0W3 ey1W3 ey2W3 ey3W3 ey4W3 ey5W3 ey6W3 ey7W3 ev0W3 ev1W3 ev2W3 ev3W3 ev4W3 ev5W3 ev6W3 ev7W3 ev8W3 ev9W3 ev10W3 ev11W3 ev12W3
    have SBu1 := Lib.hid (HU1.out)
    have Zyu1 := Lib.hid ((SBu1.out.block _ (Array.getElem?_eq_some_iff.1 ZyW3.out).1).trans ZyW3.out)
    have Zvu1 := Lib.hid ((SBu1.out.block _ (Array.getElem?_eq_some_iff.1 ZvW3.out).1).trans ZvW3.out)
    have Zou1 := Lib.hid ((SBu1.out.block _ (Array.getElem?_eq_some_iff.1 ZoW3.out).1).trans ZoW3.out)
    have Zlu1 := Lib.hid ((SBu1.out.block _ (Array.getElem?_eq_some_iff.1 ZlW3.out).1).trans ZlW3.out)
    have Zau1 := Lib.hid ((SBu1.out.block _ (Array.getElem?_eq_some_iff.1 ZaW3.out).1).trans ZaW3.out)
    have Zbu1 := Lib.hid ((SBu1.out.block _ (Array.getElem?_eq_some_iff.1 ZbW3.out).1).trans ZbW3.out)
    have HBu1 := Lib.hid (thru SBu1.out HBW3.out)
    have Su1 := Lib.hid (S3.out.trans (SBu1.out.mono S3.out.size))
    have ey0u1 : u1.cell? ⟨w.heap.size, 0, none⟩ = some (.slice y.aT y.nT y.cT) := cell_of_block Zyu1.out 0 (by simp)
    have ey1u1 : u1.cell? ⟨w.heap.size, 1, none⟩ = some (.slice y.aR y.nR y.cR) := cell_of_block Zyu1.out 1 (by simp)
    have ey2u1 : u1.cell? ⟨w.heap.size, 2, none⟩ = some (.int .i64 y.sl) := cell_of_block Zyu1.out 2 (by simp)
    have ey3u1 : u1.cell? ⟨w.heap.size, 3, none⟩ = some (.int .i64 y.sh) := cell_of_block Zyu1.out 3 (by simp)
    have ey4u1 : u1.cell? ⟨w.heap.size, 4, none⟩ = some (.int .i64 y.gl) := cell_of_block Zyu1.out 4 (by simp)
    have ey5u1 : u1.cell? ⟨w.heap.size, 5, none⟩ = some (.int .i64 y.gh) := cell_of_block Zyu1.out 5 (by simp)
    have ey6u1 : u1.cell? ⟨w.heap.size, 6, none⟩ = some (.int .i64 y.hl) := cell_of_block Zyu1.out 6 (by simp)
    have ey7u1 : u1.cell? ⟨w.heap.size, 7, none⟩ = some (.int .i64 y.hh) := cell_of_block Zyu1.out 7 (by simp)
    have lyu1 := (Array.getElem?_eq_some_iff.1 Zyu1.out).1
    have ev0u1 : u1.cell? ⟨w.heap.size + 1, 0, none⟩ = some (.int .i64 v.sl) := cell_of_block Zvu1.out 0 (by simp)
    have ev1u1 : u1.cell? ⟨w.heap.size + 1, 1, none⟩ = some (.int .i64 v.sh) := cell_of_block Zvu1.out 1 (by simp)
    have ev2u1 : u1.cell? ⟨w.heap.size + 1, 2, none⟩ = some (.int .i64 v.el) := cell_of_block Zvu1.out 2 (by simp)
    have ev3u1 : u1.cell? ⟨w.heap.size + 1, 3, none⟩ = some (.int .i64 v.eh) := cell_of_block Zvu1.out 3 (by simp)
    have ev4u1 : u1.cell? ⟨w.heap.size + 1, 4, none⟩ = some (.int .i64 v.pl) := cell_of_block Zvu1.out 4 (by simp)
    have ev5u1 : u1.cell? ⟨w.heap.size + 1, 5, none⟩ = some (.int .i64 v.ph) := cell_of_block Zvu1.out 5 (by simp)
    have ev6u1 : u1.cell? ⟨w.heap.size + 1, 6, none⟩ = some (.int .i64 v.gl) := cell_of_block Zvu1.out 6 (by simp)
    have ev7u1 : u1.cell? ⟨w.heap.size + 1, 7, none⟩ = some (.int .i64 v.gh) := cell_of_block Zvu1.out 7 (by simp)
    have ev8u1 : u1.cell? ⟨w.heap.size + 1, 8, none⟩ = some (.int .i64 v.ol) := cell_of_block Zvu1.out 8 (by simp)
    have ev9u1 : u1.cell? ⟨w.heap.size + 1, 9, none⟩ = some (.int .i64 v.oh) := cell_of_block Zvu1.out 9 (by simp)
    have ev10u1 : u1.cell? ⟨w.heap.size + 1, 10, none⟩ = some (.int .i64 v.tl) := cell_of_block Zvu1.out 10 (by simp)
    have ev11u1 : u1.cell? ⟨w.heap.size + 1, 11, none⟩ = some (.int .i64 v.th) := cell_of_block Zvu1.out 11 (by simp)
    have ev12u1 : u1.cell? ⟨w.heap.size + 1, 12, none⟩ = some (.int .i64 v.c) := cell_of_block Zvu1.out 12 (by simp)
    have lvu1 := (Array.getElem?_eq_some_iff.1 Zvu1.out).1
    go_wp2_with fail
    refine (RFE'.out _ Su1.out).mono ?_
    rintro e u2 ⟨a2, c2, rfl, hT2, hB2⟩
    have HT2 := Lib.hid hT2; have HU2 := Lib.hid hB2; have HT1b := Lib.hid (HT1.out.below hB2); clear hT2 hB2
    clear ey0u1 ey1u1 ey2u1 ey3u1 ey4u1 ey5u1 ey6u1 ey7u1 ev0u1 ev1u1 ev2u1 ev3u1 ev4u1 ev5u1 ev6u1 ev7u1 ev8u1 ev9u1 ev10u1 ev11u1 ev12u1
    have SBu2 := Lib.hid (HU2.out)
    have Zyu2 := Lib.hid ((SBu2.out.block _ (Array.getElem?_eq_some_iff.1 Zyu1.out).1).trans Zyu1.out)
    have Zvu2 := Lib.hid ((SBu2.out.block _ (Array.getElem?_eq_some_iff.1 Zvu1.out).1).trans Zvu1.out)
    have Zou2 := Lib.hid ((SBu2.out.block _ (Array.getElem?_eq_some_iff.1 Zou1.out).1).trans Zou1.out)
    have Zlu2 := Lib.hid ((SBu2.out.block _ (Array.getElem?_eq_some_iff.1 Zlu1.out).1).trans Zlu1.out)
    have Zau2 := Lib.hid ((SBu2.out.block _ (Array.getElem?_eq_some_iff.1 Zau1.out).1).trans Zau1.out)
    have Zbu2 := Lib.hid ((SBu2.out.block _ (Array.getElem?_eq_some_iff.1 Zbu1.out).1).trans Zbu1.out)
    have HBu2 := Lib.hid (thru SBu2.out HBu1.out)
    have Su2 := Lib.hid (Su1.out.trans (SBu2.out.mono Su1.out.size))
    have ey0u2 : u2.cell? ⟨w.heap.size, 0, none⟩ = some (.slice y.aT y.nT y.cT) := cell_of_block Zyu2.out 0 (by simp)
    have ey1u2 : u2.cell? ⟨w.heap.size, 1, none⟩ = some (.slice y.aR y.nR y.cR) := cell_of_block Zyu2.out 1 (by simp)
    have ey2u2 : u2.cell? ⟨w.heap.size, 2, none⟩ = some (.int .i64 y.sl) := cell_of_block Zyu2.out 2 (by simp)
    have ey3u2 : u2.cell? ⟨w.heap.size, 3, none⟩ = some (.int .i64 y.sh) := cell_of_block Zyu2.out 3 (by simp)
    have ey4u2 : u2.cell? ⟨w.heap.size, 4, none⟩ = some (.int .i64 y.gl) := cell_of_block Zyu2.out 4 (by simp)
    have ey5u2 : u2.cell? ⟨w.heap.size, 5, none⟩ = some (.int .i64 y.gh) := cell_of_block Zyu2.out 5 (by simp)
    have ey6u2 : u2.cell? ⟨w.heap.size, 6, none⟩ = some (.int .i64 y.hl) := cell_of_block Zyu2.out 6 (by simp)
    have ey7u2 : u2.cell? ⟨w.heap.size, 7, none⟩ = some (.int .i64 y.hh) := cell_of_block Zyu2.out 7 (by simp)
    have lyu2 := (Array.getElem?_eq_some_iff.1 Zyu2.out).1
    have ev0u2 : u2.cell? ⟨w.heap.size + 1, 0, none⟩ = some (.int .i64 v.sl) := cell_of_block Zvu2.out 0 (by simp)
    have ev1u2 : u2.cell? ⟨w.heap.size + 1, 1, none⟩ = some (.int .i64 v.sh) := cell_of_block Zvu2.out 1 (by simp)
    have ev2u2 : u2.cell? ⟨w.heap.size + 1, 2, none⟩ = some (.int .i64 v.el) := cell_of_block Zvu2.out 2 (by simp)
    have ev3u2 : u2.cell? ⟨w.heap.size + 1, 3, none⟩ = some (.int .i64 v.eh) := cell_of_block Zvu2.out 3 (by simp)
    have ev4u2 : u2.cell? ⟨w.heap.size + 1, 4, none⟩ = some (.int .i64 v.pl) := cell_of_block Zvu2.out 4 (by simp)
    have ev5u2 : u2.cell? ⟨w.heap.size + 1, 5, none⟩ = some (.int .i64 v.ph) := cell_of_block Zvu2.out 5 (by simp)
    have ev6u2 : u2.cell? ⟨w.heap.size + 1, 6, none⟩ = some (.int .i64 v.gl) := cell_of_block Zvu2.out 6 (by simp)
    have ev7u2 : u2.cell? ⟨w.heap.size + 1, 7, none⟩ = some (.int .i64 v.gh) := cell_of_block Zvu2.out 7 (by simp)
    have ev8u2 : u2.cell? ⟨w.heap.size + 1, 8, none⟩ = some (.int .i64 v.ol) := cell_of_block Zvu2.out 8 (by simp)
    have ev9u2 : u2.cell? ⟨w.heap.size + 1, 9, none⟩ = some (.int .i64 v.oh) := cell_of_block Zvu2.out 9 (by simp)
    have ev10u2 : u2.cell? ⟨w.heap.size + 1, 10, none⟩ = some (.int .i64 v.tl) := cell_of_block Zvu2.out 10 (by simp)
    have ev11u2 : u2.cell? ⟨w.heap.size + 1, 11, none⟩ = some (.int .i64 v.th) := cell_of_block Zvu2.out 11 (by simp)
    have ev12u2 : u2.cell? ⟨w.heap.size + 1, 12, none⟩ = some (.int .i64 v.c) := cell_of_block Zvu2.out 12 (by simp)
    have lvu2 := (Array.getElem?_eq_some_iff.1 Zvu2.out).1
    have el0u2 : u2.cell? ⟨w.heap.size + 1 + 1 + 1, 0, none⟩ = some (.int .i64 ll) := cell_of_block Zlu2.out 0 (by simp)
    have el1u2 : u2.cell? ⟨w.heap.size + 1 + 1 + 1, 1, none⟩ = some (.int .i64 lh) := cell_of_block Zlu2.out 1 (by simp)
    have llu2 := (Array.getElem?_eq_some_iff.1 Zlu2.out).1
    have ea0u2 : u2.cell? ⟨W1.heap.size + z1.bs.size, 0, none⟩ = some (.int .i64 H.sl) := cell_of_block Zau2.out 0 (by simp)
    have ea1u2 : u2.cell? ⟨W1.heap.size + z1.bs.size, 1, none⟩ = some (.int .i64 H.sh) := cell_of_block Zau2.out 1 (by simp)
    have ea2u2 : u2.cell? ⟨W1.heap.size + z1.bs.size, 2, none⟩ = some (.int .i64 H.el) := cell_of_block Zau2.out 2 (by simp)
    have ea3u2 : u2.cell? ⟨W1.heap.size + z1.bs.size, 3, none⟩ = some (.int .i64 H.eh) := cell_of_block Zau2.out 3 (by simp)
    have ea4u2 : u2.cell? ⟨W1.heap.size + z1.bs.size, 4, none⟩ = some (.int .i64 H.pl) := cell_of_block Zau2.out 4 (by simp)
    have ea5u2 : u2.cell? ⟨W1.heap.size + z1.bs.size, 5, none⟩ = some (.int .i64 H.ph) := cell_of_block Zau2.out 5 (by simp)
    have ea6u2 : u2.cell? ⟨W1.heap.size + z1.bs.size, 6, none⟩ = some (.int .i64 H.gl) := cell_of_block Zau2.out 6 (by simp)
    have ea7u2 : u2.cell? ⟨W1.heap.size + z1.bs.size, 7, none⟩ = some (.int .i64 H.gh) := cell_of_block Zau2.out 7 (by simp)
    have ea8u2 : u2.cell? ⟨W1.heap.size + z1.bs.size, 8, none⟩ = some (.int .i64 H.ol) := cell_of_block Zau2.out 8 (by simp)
    have ea9u2 : u2.cell? ⟨W1.heap.size + z1.bs.size, 9, none⟩ = some (.int .i64 H.oh) := cell_of_block Zau2.out 9 (by simp)
    have ea10u2 : u2.cell? ⟨W1.heap.size + z1.bs.size, 10, none⟩ = some (.int .i64 H.tl) := cell_of_block Zau2.out 10 (by simp)
    have ea11u2 : u2.cell? ⟨W1.heap.size + z1.bs.size, 11, none⟩ = some (.int .i64 H.th) := cell_of_block Zau2.out 11 (by simp)
    have ea12u2 : u2.cell? ⟨W1.heap.size + z1.bs.size, 12, none⟩ = some (.int .i64 H.c) := cell_of_block Zau2.out 12 (by simp)
    have lau2 := (Array.getElem?_eq_some_iff.1 Zau2.out).1
    have eb0u2 : u2.cell? ⟨W2.heap.size + z2.bs.size, 0, none⟩ = some (.int .i64 H.sl) := cell_of_block Zbu2.out 0 (by simp)
    have eb1u2 : u2.cell? ⟨W2.heap.size + z2.bs.size, 1, none⟩ = some (.int .i64 H.sh) := cell_of_block Zbu2.out 1 (by simp)
    have eb2u2 : u2.cell? ⟨W2.heap.size + z2.bs.size, 2, none⟩ = some (.int .i64 H.el) := cell_of_block Zbu2.out 2 (by simp)
    have eb3u2 : u2.cell? ⟨W2.heap.size + z2.bs.size, 3, none⟩ = some (.int .i64 H.eh) := cell_of_block Zbu2.out 3 (by simp)
    have eb4u2 : u2.cell? ⟨W2.heap.size + z2.bs.size, 4, none⟩ = some (.int .i64 H.pl) := cell_of_block Zbu2.out 4 (by simp)
    have eb5u2 : u2.cell? ⟨W2.heap.size + z2.bs.size, 5, none⟩ = some (.int .i64 H.ph) := cell_of_block Zbu2.out 5 (by simp)
    have eb6u2 : u2.cell? ⟨W2.heap.size + z2.bs.size, 6, none⟩ = some (.int .i64 H.gl) := cell_of_block Zbu2.out 6 (by simp)
    have eb7u2 : u2.cell? ⟨W2.heap.size + z2.bs.size, 7, none⟩ = some (.int .i64 H.gh) := cell_of_block Zbu2.out 7 (by simp)
    have eb8u2 : u2.cell? ⟨W2.heap.size + z2.bs.size, 8, none⟩ = some (.int .i64 H.ol) := cell_of_block Zbu2.out 8 (by simp)
    have eb9u2 : u2.cell? ⟨W2.heap.size + z2.bs.size, 9, none⟩ = some (.int .i64 H.oh) := cell_of_block Zbu2.out 9 (by simp)
    have eb10u2 : u2.cell? ⟨W2.heap.size + z2.bs.size, 10, none⟩ = some (.int .i64 H.tl) := cell_of_block Zbu2.out 10 (by simp)
    have eb11u2 : u2.cell? ⟨W2.heap.size + z2.bs.size, 11, none⟩ = some (.int .i64 H.th) := cell_of_block Zbu2.out 11 (by simp)
    have eb12u2 : u2.cell? ⟨W2.heap.size + z2.bs.size, 12, none⟩ = some (.int .i64 H.c) := cell_of_block Zbu2.out 12 (by simp)
    have lbu2 := (Array.getElem?_eq_some_iff.1 Zbu2.out).1
    go_wp2_with fail
    refine (Calls.grown (FI'.out _ (Su2.out))).mono ?_
    rintro e w1 ⟨rfl, z3, rfl⟩
    go_wp2_with fail
    refine (Calls.gw_of (RFI'.out _ (Su2.out.trans ((below_gw u2 z3).mono Su2.out.size)))).mono ?_
    rintro e w1 ⟨rfl, z4, rfl⟩
    have SS := Lib.hid (sameVats_t a1 a2 N c1 c2 _ (gw u2 z4) (by omega) (HT1b.out.below (below_gw u2 z4)) (HT2.out.below (below_gw u2 z4)))
    go_wp2_with fail
    refine (Calls.gw_of (SS.out)).mono ?_
    rintro e w1 ⟨rfl, z5, rfl⟩
    go_wp2_with fail
    refine (Calls.gw_of (alive_any _)).mono ?_
    rintro e w1 ⟨rfl, z6, rfl⟩
    go_wp2_with fail
    go_ret
    exact ⟨rfl, HBu2.out.gw z6⟩
end Go.Proofs.Ytecbacbecopbeaa
