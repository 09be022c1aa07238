/- WashSplit walked: it returns true. No conditions beyond each theorem's own. -/
import Derived.Test.YtecbacbecopbeaaDo
import Derived.Test.YtecbacbecopbeaaEc
import Derived.Test.YtecbacbecopbeaaAn
set_option linter.unusedVariables false
set_option linter.unusedSimpArgs false
set_option linter.unusedSectionVars false
set_option linter.constructorNameAsVariable false
namespace Go.Proofs.Ytecbacbecopbeaa
open Go.RowKit

attribute [local go_sem] gw_cell gw_frozen gw_size

theorem contQ_now {Q : Exit → Act → World → Prop} {K : Act → World → Prop} {a : Act} {w : World} (h : K a w) : contQ Q K .normal a w := h
theorem infoVat2 : (Try.prog.info? 38).map (fun i => (i.zero, i.size)) = some (some (.agg #[.int .i64 0, .int .i64 0, .int .i64 0, .int .i64 0, .int .i64 0, .int .i64 0, .int .i64 0, .int .i64 0, .int .i64 0, .int .i64 0, .int .i64 0, .int .i64 0, .int .i64 0]), 13) := by kernel_rfl
theorem split_first {y : Yst} {v : Vat} {k : Nat} {F G : Nat → Int} {ll lh : Int} (hl : ¬ lh < ll) {E : Int} (hE : ferE y v k F G = E) (h : E ≠ 0) : firstE y v k F G ll lh = E ∧ firstN y v k F G ll lh = 0 := by
  obtain ⟨h1, h2⟩ := first_fer hl (hE ▸ h : ferE y v k F G ≠ 0)
  exact ⟨h1.trans hE, h2⟩
theorem first_bad {y : Yst} {v : Vat} {F G : Nat → Int} {ll lh : Int} {i : Nat} (h : (y.vs v F G (i + 1)).tl < ll ∨ lh < (y.vs v F G (i + 1)).th) : inB' y v F G ll lh i = false := by
  unfold inB' insB
  rcases h with h | h
  · rw [decide_eq_false (by omega)]; rfl
  · rw [decide_eq_false (show ¬ (y.vs v F G (i + 1)).th ≤ lh by omega)]; simp
theorem first_good {y : Yst} {v : Vat} {F G : Nat → Int} {ll lh : Int} {i : Nat} (h1 : ¬ (y.vs v F G (i + 1)).tl < ll) (h2 : ¬ lh < (y.vs v F G (i + 1)).th) : inB' y v F G ll lh i = true := by
  unfold inB' insB
  rw [decide_eq_true (by omega), decide_eq_true (by omega)]; rfl
theorem fer_own {y : Yst} {v : Vat} {k : Nat} {F G : Nat → Int} (h0 : ferE y v k F G = 0) {w : World} {e : Ending} {w' : World} (h : FerR y v k F G w e w') :
    ∃ vl, e = .returned (.tuple #[vl, .int .i64 0]) ∧ w'.ownsRow w.heap.size 38 13 vl k (y.outs v F G k) ∧ Below w.heap.size w w' := by
  obtain ⟨vl, rfl, hO, hB⟩ := h
  rw [h0]
  rw [show ferN y v k F G = k from if_pos h0] at hO
  exact ⟨vl, rfl, hO, hB⟩
theorem fer_tups {y : Yst} {v : Vat} {k : Nat} {F G : Nat → Int} (h0 : ferE y v k F G = 0) {w : World} {e : Ending} {w' : World} (h : FerR y v k F G w e w') :
    ∃ a c, e = .returned (.tuple #[.slice a k c, .int .i64 0]) ∧ TupsAt w' a 13 k (fun i q => (y.vs v F G (i + 1)).num q) ∧ Below w.heap.size w w' := by
  obtain ⟨vl, he, hO, hB⟩ := fer_own h0 h
  obtain ⟨a, c, rfl, hS⟩ := tups_of_own hO
  exact ⟨a, c, he, hS, hB⟩
theorem hour_first {y : Yst} {v : Vat} {k : Nat} {F G : Nat → Int} (h0 : ferE y v k F G = 0) (hk : 0 < k) : hourE y v (F 0) (G 0) = 0 ∧ hourV y v (F 0) (G 0) = y.vs v F G 1 := by
  obtain ⟨_, hB, hv, hC, hV⟩ := ferE_zero h0
  exact hour_fine ⟨hB, hv, allB_t.1 hC 0 hk⟩ (hV 1 hk)

set_option maxRecDepth 100000 in
set_option maxHeartbeats 16000000 in
theorem split_any (y : Yst) (v : Vat) (aS : Option Addr) (k cS : Nat) (F G : Nat → Int) (at_ : Int) (ll lh : Int) (w : World) (hI : y.In w) (hf : y.Fits) (hS : SpansAt w aS k F G) (hk : k ≤ 9223372036854775807) (hkc : k ≤ cS) (hat : 0 ≤ at_ ∧ at_ ≤ 255) :
    Calls Try.prog 9 #[y.val, v.val, .slice aS k cS, .int .u8 at_, .agg #[.int .i64 ll, .int .i64 lh]] w (True1 w) := by
  unfold Yst.val Vat.val
  obtain ⟨W1, hW1⟩ : ∃ W1, ((w.alloc (.cells #[.slice y.aT y.nT y.cT, .slice y.aR y.nR y.cR, .int .i64 y.sl, .int .i64 y.sh, .int .i64 y.gl, .int .i64 y.gh, .int .i64 y.hl, .int .i64 y.hh] 36)).alloc (.cells #[.int .i64 v.sl, .int .i64 v.sh, .int .i64 v.el, .int .i64 v.eh, .int .i64 v.pl, .int .i64 v.ph, .int .i64 v.gl, .int .i64 v.gh, .int .i64 v.ol, .int .i64 v.oh, .int .i64 v.tl, .int .i64 v.th, .int .i64 v.c] 38)).alloc (.cells #[.int .i64 ll, .int .i64 lh] 23) = W1 := ⟨_, rfl⟩
  have hBc : Below w.heap.size w W1 := by rw [← hW1]; exact ((below_alloc _ _).alloc (by simp) _).alloc (by simp <;> omega) _
  have zc0 : W1.heap[w.heap.size]? = some (.cells #[.slice y.aT y.nT y.cT, .slice y.aR y.nR y.cR, .int .i64 y.sl, .int .i64 y.sh, .int .i64 y.gl, .int .i64 y.gh, .int .i64 y.hl, .int .i64 y.hh] 36 (0, 0)) := by rw [← hW1]; exact alloc_keep (alloc_keep (alloc_at rfl))
  have zc1 : W1.heap[w.heap.size + 1]? = some (.cells #[.int .i64 v.sl, .int .i64 v.sh, .int .i64 v.el, .int .i64 v.eh, .int .i64 v.pl, .int .i64 v.ph, .int .i64 v.gl, .int .i64 v.gh, .int .i64 v.ol, .int .i64 v.oh, .int .i64 v.tl, .int .i64 v.th, .int .i64 v.c] 38 (0, 0)) := by rw [← hW1]; exact alloc_keep (alloc_at (by simp))
  have zc2 : W1.heap[w.heap.size + 1 + 1]? = some (.cells #[.int .i64 ll, .int .i64 lh] 23 (0, 0)) := by rw [← hW1]; exact alloc_at (by simp <;> omega)
  have c00 : W1.cell? ⟨w.heap.size, 0, none⟩ = some (.slice y.aT y.nT y.cT) := cell_of_block zc0 0 (by simp)
  have c01 : W1.cell? ⟨w.heap.size, 1, none⟩ = some (.slice y.aR y.nR y.cR) := cell_of_block zc0 1 (by simp)
  have c02 : W1.cell? ⟨w.heap.size, 2, none⟩ = some (.int .i64 y.sl) := cell_of_block zc0 2 (by simp)
  have c03 : W1.cell? ⟨w.heap.size, 3, none⟩ = some (.int .i64 y.sh) := cell_of_block zc0 3 (by simp)
  have c04 : W1.cell? ⟨w.heap.size, 4, none⟩ = some (.int .i64 y.gl) := cell_of_block zc0 4 (by simp)
  have c05 : W1.cell? ⟨w.heap.size, 5, none⟩ = some (.int .i64 y.gh) := cell_of_block zc0 5 (by simp)
  have c06 : W1.cell? ⟨w.heap.size, 6, none⟩ = some (.int .i64 y.hl) := cell_of_block zc0 6 (by simp)
  have c07 : W1.cell? ⟨w.heap.size, 7, none⟩ = some (.int .i64 y.hh) := cell_of_block zc0 7 (by simp)
  have c10 : W1.cell? ⟨w.heap.size + 1, 0, none⟩ = some (.int .i64 v.sl) := cell_of_block zc1 0 (by simp)
  have c11 : W1.cell? ⟨w.heap.size + 1, 1, none⟩ = some (.int .i64 v.sh) := cell_of_block zc1 1 (by simp)
  have c12 : W1.cell? ⟨w.heap.size + 1, 2, none⟩ = some (.int .i64 v.el) := cell_of_block zc1 2 (by simp)
  have c13 : W1.cell? ⟨w.heap.size + 1, 3, none⟩ = some (.int .i64 v.eh) := cell_of_block zc1 3 (by simp)
  have c14 : W1.cell? ⟨w.heap.size + 1, 4, none⟩ = some (.int .i64 v.pl) := cell_of_block zc1 4 (by simp)
  have c15 : W1.cell? ⟨w.heap.size + 1, 5, none⟩ = some (.int .i64 v.ph) := cell_of_block zc1 5 (by simp)
  have c16 : W1.cell? ⟨w.heap.size + 1, 6, none⟩ = some (.int .i64 v.gl) := cell_of_block zc1 6 (by simp)
  have c17 : W1.cell? ⟨w.heap.size + 1, 7, none⟩ = some (.int .i64 v.gh) := cell_of_block zc1 7 (by simp)
  have c18 : W1.cell? ⟨w.heap.size + 1, 8, none⟩ = some (.int .i64 v.ol) := cell_of_block zc1 8 (by simp)
  have c19 : W1.cell? ⟨w.heap.size + 1, 9, none⟩ = some (.int .i64 v.oh) := cell_of_block zc1 9 (by simp)
  have c110 : W1.cell? ⟨w.heap.size + 1, 10, none⟩ = some (.int .i64 v.tl) := cell_of_block zc1 10 (by simp)
  have c111 : W1.cell? ⟨w.heap.size + 1, 11, none⟩ = some (.int .i64 v.th) := cell_of_block zc1 11 (by simp)
  have c112 : W1.cell? ⟨w.heap.size + 1, 12, none⟩ = some (.int .i64 v.c) := cell_of_block zc1 12 (by simp)
  have c20 : W1.cell? ⟨w.heap.size + 1 + 1, 0, none⟩ = some (.int .i64 ll) := cell_of_block zc2 0 (by simp)
  have c21 : W1.cell? ⟨w.heap.size + 1 + 1, 1, none⟩ = some (.int .i64 lh) := cell_of_block zc2 1 (by simp)
  have lc0 := (Array.getElem?_eq_some_iff.1 zc0).1
  have lc1 := (Array.getElem?_eq_some_iff.1 zc1).1
  have lc2 := (Array.getElem?_eq_some_iff.1 zc2).1
  have Zc0 := Lib.hid zc0
  have Zc1 := Lib.hid zc1
  have Zc2 := Lib.hid zc2
  clear zc0 zc1 zc2
  have HBc := Lib.hid hBc; clear hBc
  have HWc := Lib.hid hW1; clear hW1
  have HIW := Lib.hid (hI.below HBc.out); have HSW := Lib.hid (hS.below HBc.out)
  have FER := fun W (hb : Below W1.heap.size W1 W) => (Ferment_any aS k cS F G y v W ((hI.below HBc.out).below hb) hf ((hS.below HBc.out).below hb) hk).mono (fun _ _ h => fer_list h)
  have FI := fun W (hb : Below W1.heap.size W1 W) => First_any aS k cS F G y v ll lh W ((hI.below HBc.out).below hb) hf ((hS.below HBc.out).below hb) hk
  unfold FirR at FI
  unfold Yst.val Vat.val at FER FI
  have FER' := Lib.hid FER; have FI' := Lib.hid FI; clear FER FI hI hS
  by_cases n1 : 20 < y.nT
  · skip
    go_enter Try.func9, Try.ntmps9
    go_upto_region 1 with (fail)
    rw [HWc.out]
    go_wp2_with fail
    refine (Calls.grown (alive_any _)).mono ?_
    rintro e w1 ⟨rfl, z1, rfl⟩
    go_wp2_with fail
    go_ret
    exact ⟨rfl, HBc.out.gw z1⟩
  by_cases n2 : 21 < y.nR
  · skip
    go_enter Try.func9, Try.ntmps9
    go_upto_region 1 with (fail)
    rw [HWc.out]
    go_wp2_with fail
    refine (Calls.grown (alive_any _)).mono ?_
    rintro e w1 ⟨rfl, z1, rfl⟩
    go_wp2_with fail
    go_ret
    exact ⟨rfl, HBc.out.gw z1⟩
  by_cases n3 : 40 < k
  · skip
    go_enter Try.func9, Try.ntmps9
    go_upto_region 1 with (fail)
    rw [HWc.out]
    go_wp2_with fail
    refine (Calls.grown (alive_any _)).mono ?_
    rintro e w1 ⟨rfl, z1, rfl⟩
    go_wp2_with fail
    go_ret
    exact ⟨rfl, HBc.out.gw z1⟩
  by_cases n4 : lh < ll
  · skip
    go_enter Try.func9, Try.ntmps9
    go_upto_region 1 with (fail)
    rw [HWc.out]
    go_wp2_with fail
    refine (Calls.grown (alive_any _)).mono ?_
    rintro e w1 ⟨rfl, z1, rfl⟩
    go_wp2_with fail
    go_ret
    exact ⟨rfl, HBc.out.gw z1⟩
  go_enter Try.func9, Try.ntmps9
  go_upto_region 1 with (fail)
  rw [HWc.out]
  go_wp2_with fail
  refine (FER'.out _ (Below.refl _ _)).mono ?_
  rintro e u1 ⟨a1, c1, rfl, hT1, hB1⟩
  have HU1 := Lib.hid hB1; clear hB1 c00 c01 c02 c03 c04 c05 c06 c07 c10 c11 c12 c13 c14 c15 c16 c17 c18 c19 c110 c111 c112 c20 c21
  have Su1 := Lib.hid HU1.out
  have Zyu1 := Lib.hid ((HU1.out.block _ (Array.getElem?_eq_some_iff.1 Zc0.out).1).trans Zc0.out)
  have Zvu1 := Lib.hid ((HU1.out.block _ (Array.getElem?_eq_some_iff.1 Zc1.out).1).trans Zc1.out)
  have Zlu1 := Lib.hid ((HU1.out.block _ (Array.getElem?_eq_some_iff.1 Zc2.out).1).trans Zc2.out)
  have HBu1 := Lib.hid (thru HU1.out HBc.out)
  have zsu1 := HU1.out.size
  by_cases hE : ferE y v k F G = 0
  rotate_left
  · have hN : ferN y v k F G = 0 := if_neg hE
    rw [hN]
    obtain ⟨E, hEE⟩ : ∃ E, ferE y v k F G = E := ⟨_, rfl⟩
    rw [hEE] at hE ⊢
    obtain ⟨f1, f2⟩ := split_first (ll := ll) (lh := lh) (by omega) hEE hE
    have FI := FI'.out
    rw [f1, f2] at FI
    have FJ' := Lib.hid FI; clear FI f1 f2 hN hT1
    have ne : (E != 0) = true := by simpa using hE
    clear hE hEE
    have ey0u1 : u1.cell? ⟨w.heap.size, 0, none⟩ = some (.slice y.aT y.nT y.cT) := cell_of_block Zyu1.out 0 (by simp)
    have ey1u1 : u1.cell? ⟨w.heap.size, 1, none⟩ = some (.slice y.aR y.nR y.cR) := cell_of_block Zyu1.out 1 (by simp)
    have ey2u1 : u1.cell? ⟨w.heap.size, 2, none⟩ = some (.int .i64 y.sl) := cell_of_block Zyu1.out 2 (by simp)
    have ey3u1 : u1.cell? ⟨w.heap.size, 3, none⟩ = some (.int .i64 y.sh) := cell_of_block Zyu1.out 3 (by simp)
    have ey4u1 : u1.cell? ⟨w.heap.size, 4, none⟩ = some (.int .i64 y.gl) := cell_of_block Zyu1.out 4 (by simp)
    have ey5u1 : u1.cell? ⟨w.heap.size, 5, none⟩ = some (.int .i64 y.gh) := cell_of_block Zyu1.out 5 (by simp)
    have ey6u1 : u1.cell? ⟨w.heap.size, 6, none⟩ = some (.int .i64 y.hl) := cell_of_block Zyu1.out 6 (by simp)
    have ey7u1 : u1.cell? ⟨w.heap.size, 7, none⟩ = some (.int .i64 y.hh) := cell_of_block Zyu1.out 7 (by simp)
    have lyu1 := (Array.getElem?_eq_some_iff.1 Zyu1.out).1
    have ev0u1 : u1.cell? ⟨w.heap.size + 1, 0, none⟩ = some (.int .i64 v.sl) := cell_of_block Zvu1.out 0 (by simp)
    have ev1u1 : u1.cell? ⟨w.heap.size + 1, 1, none⟩ = some (.int .i64 v.sh) := cell_of_block Zvu1.out 1 (by simp)
    have ev2u1 : u1.cell? ⟨w.heap.size + 1, 2, none⟩ = some (.int .i64 v.el) := cell_of_block Zvu1.out 2 (by simp)
    have ev3u1 : u1.cell? ⟨w.heap.size + 1, 3, none⟩ = some (.int .i64 v.eh) := cell_of_block Zvu1.out 3 (by simp)
    have ev4u1 : u1.cell? ⟨w.heap.size + 1, 4, none⟩ = some (.int .i64 v.pl) := cell_of_block Zvu1.out 4 (by simp)
    have ev5u1 : u1.cell? ⟨w.heap.size + 1, 5, none⟩ = some (.int .i64 v.ph) := cell_of_block Zvu1.out 5 (by simp)
    have ev6u1 : u1.cell? ⟨w.heap.size + 1, 6, none⟩ = some (.int .i64 v.gl) := cell_of_block Zvu1.out 6 (by simp)
    have ev7u1 : u1.cell? ⟨w.heap.size + 1, 7, none⟩ = some (.int .i64 v.gh) := cell_of_block Zvu1.out 7 (by simp)
    have ev8u1 : u1.cell? ⟨w.heap.size + 1, 8, none⟩ = some (.int .i64 v.ol) := cell_of_block Zvu1.out 8 (by simp)
    have ev9u1 : u1.cell? ⟨w.heap.size + 1, 9, none⟩ = some (.int .i64 v.oh) := cell_of_block Zvu1.out 9 (by simp)
    have ev10u1 : u1.cell? ⟨w.heap.size + 1, 10, none⟩ = some (.int .i64 v.tl) := cell_of_block Zvu1.out 10 (by simp)
    have ev11u1 : u1.cell? ⟨w.heap.size + 1, 11, none⟩ = some (.int .i64 v.th) := cell_of_block Zvu1.out 11 (by simp)
    have ev12u1 : u1.cell? ⟨w.heap.size + 1, 12, none⟩ = some (.int .i64 v.c) := cell_of_block Zvu1.out 12 (by simp)
    have lvu1 := (Array.getElem?_eq_some_iff.1 Zvu1.out).1
    have el0u1 : u1.cell? ⟨w.heap.size + 1 + 1, 0, none⟩ = some (.int .i64 ll) := cell_of_block Zlu1.out 0 (by simp)
    have el1u1 : u1.cell? ⟨w.heap.size + 1 + 1, 1, none⟩ = some (.int .i64 lh) := cell_of_block Zlu1.out 1 (by simp)
    have llu1 := (Array.getElem?_eq_some_iff.1 Zlu1.out).1
    go_wp2_with fail
    refine (Calls.grown (FJ'.out _ (Su1.out))).mono ?_
    rintro e w1 ⟨rfl, z1, rfl⟩
    go_wp2_with fail
    refine (Calls.gw_of (alive_any _)).mono ?_
    rintro e w1 ⟨rfl, z2, rfl⟩
    go_wp2_with fail
    go_ret
    exact ⟨rfl, HBu1.out.gw z2⟩
  have hN : ferN y v k F G = k := if_pos hE
  rw [hN] at hT1 ⊢
  rw [hE]
  have HT1 := Lib.hid hT1
  have HH := Lib.hid (fun i (hi : i < k) h1 h2 => first_hit (ll := ll) (lh := lh) (by omega) hE (i := i) hi h1 h2); have HN := Lib.hid (first_none (ll := ll) (lh := lh) (by omega) hE)
  obtain ⟨FN, hFN⟩ : ∃ FN, firstN y v k F G ll lh = FN := ⟨_, rfl⟩
  obtain ⟨FE, hFE⟩ : ∃ FE, firstE y v k F G ll lh = FE := ⟨_, rfl⟩
  have FI := FI'.out
  simp only [hFN, hFE] at FI
  rw [hFN, hFE] at HN
  simp only [hFN, hFE] at HH
  have FJ' := Lib.hid FI; clear FI hFN hFE hT1 hN
  have E0 := Lib.hid hE; clear hE
  obtain ⟨j, hj, hjk⟩ : ∃ j : Nat, at_ % ((k : Int) + 1) = j ∧ j ≤ k := ⟨(at_ % ((k : Int) + 1)).toNat, by have := Int.emod_nonneg at_ (show (k : Int) + 1 ≠ 0 by omega); omega, by have := Int.emod_lt_of_pos at_ (show (0 : Int) < (k : Int) + 1 by omega); omega⟩
  obtain ⟨aF, hsf, hFS⟩ := span_first (P := Try.prog) (t := 34) (by kernel_rfl) (fun _ => by kernel_rfl) HSW.out hkc j hjk
  obtain ⟨aR, hsr, hRS⟩ := span_rest (P := Try.prog) (t := 34) (by kernel_rfl) (fun _ => by kernel_rfl) HSW.out hkc j hjk
  have FA := fun W (hb : Below W1.heap.size W1 W) => (Ferment_any aF j cS F G y v W (HIW.out.below hb) hf (hFS.below hb) (by omega)).mono (fun _ _ h => fer_own (ferE_pre E0.out hjk) h)
  have FB := fun W (hb : Below W1.heap.size W1 W) => (Ferment_any aR (k - j) (cS - j) (fun t => F (j + t)) (fun t => G (j + t)) y (y.vs v F G j) W (HIW.out.below hb) hf (hRS.below hb) (by omega)).mono (fun _ _ h => fer_tups (ferE_rest E0.out hjk) h)
  have OC := Lib.hid (outs_cut y v F G hjk)
  unfold Yst.val Vat.val at FA FB
  have FA' := Lib.hid FA; have FB' := Lib.hid FB; clear FA FB hFS hRS
  have ey0u1 : u1.cell? ⟨w.heap.size, 0, none⟩ = some (.slice y.aT y.nT y.cT) := cell_of_block Zyu1.out 0 (by simp)
  have ey1u1 : u1.cell? ⟨w.heap.size, 1, none⟩ = some (.slice y.aR y.nR y.cR) := cell_of_block Zyu1.out 1 (by simp)
  have ey2u1 : u1.cell? ⟨w.heap.size, 2, none⟩ = some (.int .i64 y.sl) := cell_of_block Zyu1.out 2 (by simp)
  have ey3u1 : u1.cell? ⟨w.heap.size, 3, none⟩ = some (.int .i64 y.sh) := cell_of_block Zyu1.out 3 (by simp)
  have ey4u1 : u1.cell? ⟨w.heap.size, 4, none⟩ = some (.int .i64 y.gl) := cell_of_block Zyu1.out 4 (by simp)
  have ey5u1 : u1.cell? ⟨w.heap.size, 5, none⟩ = some (.int .i64 y.gh) := cell_of_block Zyu1.out 5 (by simp)
  have ey6u1 : u1.cell? ⟨w.heap.size, 6, none⟩ = some (.int .i64 y.hl) := cell_of_block Zyu1.out 6 (by simp)
  have ey7u1 : u1.cell? ⟨w.heap.size, 7, none⟩ = some (.int .i64 y.hh) := cell_of_block Zyu1.out 7 (by simp)
  have lyu1 := (Array.getElem?_eq_some_iff.1 Zyu1.out).1
  have ev0u1 : u1.cell? ⟨w.heap.size + 1, 0, none⟩ = some (.int .i64 v.sl) := cell_of_block Zvu1.out 0 (by simp)
  have ev1u1 : u1.cell? ⟨w.heap.size + 1, 1, none⟩ = some (.int .i64 v.sh) := cell_of_block Zvu1.out 1 (by simp)
  have ev2u1 : u1.cell? ⟨w.heap.size + 1, 2, none⟩ = some (.int .i64 v.el) := cell_of_block Zvu1.out 2 (by simp)
  have ev3u1 : u1.cell? ⟨w.heap.size + 1, 3, none⟩ = some (.int .i64 v.eh) := cell_of_block Zvu1.out 3 (by simp)
  have ev4u1 : u1.cell? ⟨w.heap.size + 1, 4, none⟩ = some (.int .i64 v.pl) := cell_of_block Zvu1.out 4 (by simp)
  have ev5u1 : u1.cell? ⟨w.heap.size + 1, 5, none⟩ = some (.int .i64 v.ph) := cell_of_block Zvu1.out 5 (by simp)
  have ev6u1 : u1.cell? ⟨w.heap.size + 1, 6, none⟩ = some (.int .i64 v.gl) := cell_of_block Zvu1.out 6 (by simp)
  have ev7u1 : u1.cell? ⟨w.heap.size + 1, 7, none⟩ = some (.int .i64 v.gh) := cell_of_block Zvu1.out 7 (by simp)
  have ev8u1 : u1.cell? ⟨w.heap.size + 1, 8, none⟩ = some (.int .i64 v.ol) := cell_of_block Zvu1.out 8 (by simp)
  have ev9u1 : u1.cell? ⟨w.heap.size + 1, 9, none⟩ = some (.int .i64 v.oh) := cell_of_block Zvu1.out 9 (by simp)
  have ev10u1 : u1.cell? ⟨w.heap.size + 1, 10, none⟩ = some (.int .i64 v.tl) := cell_of_block Zvu1.out 10 (by simp)
  have ev11u1 : u1.cell? ⟨w.heap.size + 1, 11, none⟩ = some (.int .i64 v.th) := cell_of_block Zvu1.out 11 (by simp)
  have ev12u1 : u1.cell? ⟨w.heap.size + 1, 12, none⟩ = some (.int .i64 v.c) := cell_of_block Zvu1.out 12 (by simp)
  have lvu1 := (Array.getElem?_eq_some_iff.1 Zvu1.out).1
  have el0u1 : u1.cell? ⟨w.heap.size + 1 + 1, 0, none⟩ = some (.int .i64 ll) := cell_of_block Zlu1.out 0 (by simp)
  have el1u1 : u1.cell? ⟨w.heap.size + 1 + 1, 1, none⟩ = some (.int .i64 lh) := cell_of_block Zlu1.out 1 (by simp)
  have llu1 := (Array.getElem?_eq_some_iff.1 Zlu1.out).1
  go_upto_region 8 with (fail)
  have ey0u1 : u1.cell? ⟨w.heap.size, 0, none⟩ = some (.slice y.aT y.nT y.cT) := cell_of_block Zyu1.out 0 (by simp)
  have ey1u1 : u1.cell? ⟨w.heap.size, 1, none⟩ = some (.slice y.aR y.nR y.cR) := cell_of_block Zyu1.out 1 (by simp)
  have ey2u1 : u1.cell? ⟨w.heap.size, 2, none⟩ = some (.int .i64 y.sl) := cell_of_block Zyu1.out 2 (by simp)
  have ey3u1 : u1.cell? ⟨w.heap.size, 3, none⟩ = some (.int .i64 y.sh) := cell_of_block Zyu1.out 3 (by simp)
  have ey4u1 : u1.cell? ⟨w.heap.size, 4, none⟩ = some (.int .i64 y.gl) := cell_of_block Zyu1.out 4 (by simp)
  have ey5u1 : u1.cell? ⟨w.heap.size, 5, none⟩ = some (.int .i64 y.gh) := cell_of_block Zyu1.out 5 (by simp)
  have ey6u1 : u1.cell? ⟨w.heap.size, 6, none⟩ = some (.int .i64 y.hl) := cell_of_block Zyu1.out 6 (by simp)
  have ey7u1 : u1.cell? ⟨w.heap.size, 7, none⟩ = some (.int .i64 y.hh) := cell_of_block Zyu1.out 7 (by simp)
  have lyu1 := (Array.getElem?_eq_some_iff.1 Zyu1.out).1
  have ev0u1 : u1.cell? ⟨w.heap.size + 1, 0, none⟩ = some (.int .i64 v.sl) := cell_of_block Zvu1.out 0 (by simp)
  have ev1u1 : u1.cell? ⟨w.heap.size + 1, 1, none⟩ = some (.int .i64 v.sh) := cell_of_block Zvu1.out 1 (by simp)
  have ev2u1 : u1.cell? ⟨w.heap.size + 1, 2, none⟩ = some (.int .i64 v.el) := cell_of_block Zvu1.out 2 (by simp)
  have ev3u1 : u1.cell? ⟨w.heap.size + 1, 3, none⟩ = some (.int .i64 v.eh) := cell_of_block Zvu1.out 3 (by simp)
  have ev4u1 : u1.cell? ⟨w.heap.size + 1, 4, none⟩ = some (.int .i64 v.pl) := cell_of_block Zvu1.out 4 (by simp)
  have ev5u1 : u1.cell? ⟨w.heap.size + 1, 5, none⟩ = some (.int .i64 v.ph) := cell_of_block Zvu1.out 5 (by simp)
  have ev6u1 : u1.cell? ⟨w.heap.size + 1, 6, none⟩ = some (.int .i64 v.gl) := cell_of_block Zvu1.out 6 (by simp)
  have ev7u1 : u1.cell? ⟨w.heap.size + 1, 7, none⟩ = some (.int .i64 v.gh) := cell_of_block Zvu1.out 7 (by simp)
  have ev8u1 : u1.cell? ⟨w.heap.size + 1, 8, none⟩ = some (.int .i64 v.ol) := cell_of_block Zvu1.out 8 (by simp)
  have ev9u1 : u1.cell? ⟨w.heap.size + 1, 9, none⟩ = some (.int .i64 v.oh) := cell_of_block Zvu1.out 9 (by simp)
  have ev10u1 : u1.cell? ⟨w.heap.size + 1, 10, none⟩ = some (.int .i64 v.tl) := cell_of_block Zvu1.out 10 (by simp)
  have ev11u1 : u1.cell? ⟨w.heap.size + 1, 11, none⟩ = some (.int .i64 v.th) := cell_of_block Zvu1.out 11 (by simp)
  have ev12u1 : u1.cell? ⟨w.heap.size + 1, 12, none⟩ = some (.int .i64 v.c) := cell_of_block Zvu1.out 12 (by simp)
  have lvu1 := (Array.getElem?_eq_some_iff.1 Zvu1.out).1
  have el0u1 : u1.cell? ⟨w.heap.size + 1 + 1, 0, none⟩ = some (.int .i64 ll) := cell_of_block Zlu1.out 0 (by simp)
  have el1u1 : u1.cell? ⟨w.heap.size + 1 + 1, 1, none⟩ = some (.int .i64 lh) := cell_of_block Zlu1.out 1 (by simp)
  have llu1 := (Array.getElem?_eq_some_iff.1 Zlu1.out).1
  go_upto_region 8 with (fail)
  refine wp_region_steps (fun w' => ∃ x, w' = gw u1 x) [([0, 1, 2, 3], 4), ([], 5)] [6, 7, 8, 9, 10] [] (by kernel_rfl) (by kernel_rfl) ?_
  rintro _ ⟨x1, rfl⟩
  refine ⟨⟨_, rfl⟩, ?_⟩
  refine wpSeg_cons ?_
  simp only [pickL, List.getElem?_cons_zero, List.getElem?_cons_succ]
  repeat (go_big_quiet_step (fail))
  refine wpQuiet_nil ?_
  go_wp2_with fail
  refine contQ_now ⟨⟨_, rfl⟩, ?_⟩
  refine wpSeg_cons ?_
  simp only [pickL, List.getElem?_cons_zero, List.getElem?_cons_succ]
  repeat (go_big_quiet_step (fail))
  refine wpQuiet_nil ?_
  go_wp2_with fail
  rename_i KK hKK
  refine (FA'.out _ (Su1.out.trans ((below_gw u1 x1).mono Su1.out.size))).mono ?_
  rintro e w1 ⟨va, rfl, hown, hB2⟩
  obtain ⟨x2, hx2⟩ := gw_of_below (thru hB2 (below_gw u1 x1))
  subst hx2
  obtain ⟨aA, cA, rfl, hTA⟩ := tups_of_own hown
  have HOA := Lib.hid (hown.base (show u1.heap.size ≤ (gw u1 x1).heap.size by rw [gw_size]; omega)); have HTA := Lib.hid hTA; clear hown hB2 hTA
  refine hKK _ _ (contQ_nil ⟨⟨_, rfl⟩, ?_⟩)
  clear hKK KK
  refine wpSeg_nil ?_
  simp only [pickL, List.getElem?_cons_zero, List.getElem?_cons_succ]
  repeat (go_big_quiet_step (fail))
  refine wpQuiet_nil ?_
  refine contN_nil ?_
  go_upto_region 10 with (fail)
  obtain ⟨W2, hW2⟩ : ∃ W2, ((gw u1 x2)).alloc (.cells #[.int .i64 v.sl, .int .i64 v.sh, .int .i64 v.el, .int .i64 v.eh, .int .i64 v.pl, .int .i64 v.ph, .int .i64 v.gl, .int .i64 v.gh, .int .i64 v.ol, .int .i64 v.oh, .int .i64 v.tl, .int .i64 v.th, .int .i64 v.c] 38) = W2 := ⟨_, rfl⟩
  have hbW2 : Below u1.heap.size u1 W2 := by rw [← hW2]; exact (below_gw u1 x2).alloc (by simp [gw_size]) _
  have ZyW2 := Lib.hid ((hbW2.block _ (Array.getElem?_eq_some_iff.1 Zyu1.out).1).trans Zyu1.out)
  have ZvW2 := Lib.hid ((hbW2.block _ (Array.getElem?_eq_some_iff.1 Zvu1.out).1).trans Zvu1.out)
  have ZlW2 := Lib.hid ((hbW2.block _ (Array.getElem?_eq_some_iff.1 Zlu1.out).1).trans Zlu1.out)
  have zmW2 : W2.heap[u1.heap.size + x2.bs.size]? = some (.cells #[.int .i64 v.sl, .int .i64 v.sh, .int .i64 v.el, .int .i64 v.eh, .int .i64 v.pl, .int .i64 v.ph, .int .i64 v.gl, .int .i64 v.gh, .int .i64 v.ol, .int .i64 v.oh, .int .i64 v.tl, .int .i64 v.th, .int .i64 v.c] 38 (0, 0)) := by rw [← hW2]; exact alloc_at (by simp [gw_size])
  have ZmW2 := Lib.hid zmW2; clear zmW2
  have HBW2 := Lib.hid (thru hbW2 HBu1.out)
  have SBW2 := Lib.hid hbW2; clear hbW2
  have HWW2 := Lib.hid hW2; clear hW2
  rw [HWW2.out]
  clear ey0u1 ey1u1 ey2u1 ey3u1 ey4u1 ey5u1 ey6u1 ey7u1 ev0u1 ev1u1 ev2u1 ev3u1 ev4u1 ev5u1 ev6u1 ev7u1 ev8u1 ev9u1 ev10u1 ev11u1 ev12u1 el0u1 el1u1
  have S2 := Lib.hid (Su1.out.trans (SBW2.out.mono Su1.out.size))
  have HOB := Lib.hid (own_below HOA.out (show Below (gw u1 x2).heap.size (gw u1 x2) W2 by rw [← HWW2.out]; exact below_alloc _ _))
  have HTB := Lib.hid (HTA.out.below (show Below (gw u1 x2).heap.size (gw u1 x2) W2 by rw [← HWW2.out]; exact below_alloc _ _))
  by_cases jp : 0 < j
  rotate_left
  · skip
    have hM : y.vs v F G j = v := by rw [show j = 0 by omega]; rfl
    have FB := FB'.out
    have OD_ := OC.out
    simp only [hM] at FB OD_
    have FC' := Lib.hid FB; have OD := Lib.hid OD_; clear FB OD_ hM
    have ey0W2 : W2.cell? ⟨w.heap.size, 0, none⟩ = some (.slice y.aT y.nT y.cT) := cell_of_block ZyW2.out 0 (by simp)
    have ey1W2 : W2.cell? ⟨w.heap.size, 1, none⟩ = some (.slice y.aR y.nR y.cR) := cell_of_block ZyW2.out 1 (by simp)
    have ey2W2 : W2.cell? ⟨w.heap.size, 2, none⟩ = some (.int .i64 y.sl) := cell_of_block ZyW2.out 2 (by simp)
    have ey3W2 : W2.cell? ⟨w.heap.size, 3, none⟩ = some (.int .i64 y.sh) := cell_of_block ZyW2.out 3 (by simp)
    have ey4W2 : W2.cell? ⟨w.heap.size, 4, none⟩ = some (.int .i64 y.gl) := cell_of_block ZyW2.out 4 (by simp)
    have ey5W2 : W2.cell? ⟨w.heap.size, 5, none⟩ = some (.int .i64 y.gh) := cell_of_block ZyW2.out 5 (by simp)
    have ey6W2 : W2.cell? ⟨w.heap.size, 6, none⟩ = some (.int .i64 y.hl) := cell_of_block ZyW2.out 6 (by simp)
    have ey7W2 : W2.cell? ⟨w.heap.size, 7, none⟩ = some (.int .i64 y.hh) := cell_of_block ZyW2.out 7 (by simp)
    have lyW2 := (Array.getElem?_eq_some_iff.1 ZyW2.out).1
    have em0W2 : W2.cell? ⟨u1.heap.size + x2.bs.size, 0, none⟩ = some (.int .i64 v.sl) := cell_of_block ZmW2.out 0 (by simp)
    have em1W2 : W2.cell? ⟨u1.heap.size + x2.bs.size, 1, none⟩ = some (.int .i64 v.sh) := cell_of_block ZmW2.out 1 (by simp)
    have em2W2 : W2.cell? ⟨u1.heap.size + x2.bs.size, 2, none⟩ = some (.int .i64 v.el) := cell_of_block ZmW2.out 2 (by simp)
    have em3W2 : W2.cell? ⟨u1.heap.size + x2.bs.size, 3, none⟩ = some (.int .i64 v.eh) := cell_of_block ZmW2.out 3 (by simp)
    have em4W2 : W2.cell? ⟨u1.heap.size + x2.bs.size, 4, none⟩ = some (.int .i64 v.pl) := cell_of_block ZmW2.out 4 (by simp)
    have em5W2 : W2.cell? ⟨u1.heap.size + x2.bs.size, 5, none⟩ = some (.int .i64 v.ph) := cell_of_block ZmW2.out 5 (by simp)
    have em6W2 : W2.cell? ⟨u1.heap.size + x2.bs.size, 6, none⟩ = some (.int .i64 v.gl) := cell_of_block ZmW2.out 6 (by simp)
    have em7W2 : W2.cell? ⟨u1.heap.size + x2.bs.size, 7, none⟩ = some (.int .i64 v.gh) := cell_of_block ZmW2.out 7 (by simp)
    have em8W2 : W2.cell? ⟨u1.heap.size + x2.bs.size, 8, none⟩ = some (.int .i64 v.ol) := cell_of_block ZmW2.out 8 (by simp)
    have em9W2 : W2.cell? ⟨u1.heap.size + x2.bs.size, 9, none⟩ = some (.int .i64 v.oh) := cell_of_block ZmW2.out 9 (by simp)
    have em10W2 : W2.cell? ⟨u1.heap.size + x2.bs.size, 10, none⟩ = some (.int .i64 v.tl) := cell_of_block ZmW2.out 10 (by simp)
    have em11W2 : W2.cell? ⟨u1.heap.size + x2.bs.size, 11, none⟩ = some (.int .i64 v.th) := cell_of_block ZmW2.out 11 (by simp)
    have em12W2 : W2.cell? ⟨u1.heap.size + x2.bs.size, 12, none⟩ = some (.int .i64 v.c) := cell_of_block ZmW2.out 12 (by simp)
    have lmW2 := (Array.getElem?_eq_some_iff.1 ZmW2.out).1
    go_upto_region 12 with (fail)
    have HOC := HOB
    refine wp_region_steps (fun w' => ∃ x, w' = gw W2 x) [([0, 1, 2, 3], 4), ([], 5)] [6, 7, 8, 9, 10] [] (by kernel_rfl) (by kernel_rfl) ?_
    rintro _ ⟨x3, rfl⟩
    refine ⟨⟨_, rfl⟩, ?_⟩
    refine wpSeg_cons ?_
    simp only [pickL, List.getElem?_cons_zero, List.getElem?_cons_succ]
    repeat (go_big_quiet_step (fail))
    refine wpQuiet_nil ?_
    go_wp2_with fail
    refine contQ_now ⟨⟨_, rfl⟩, ?_⟩
    refine wpSeg_cons ?_
    simp only [pickL, List.getElem?_cons_zero, List.getElem?_cons_succ]
    repeat (go_big_quiet_step (fail))
    refine wpQuiet_nil ?_
    go_wp2_with fail
    rename_i KK hKK
    refine (FC'.out _ (S2.out.trans ((below_gw W2 x3).mono S2.out.size))).mono ?_
    rintro e w1 ⟨aB, cB, rfl, hTR, hB3⟩
    obtain ⟨x4, hx4⟩ := gw_of_below (thru hB3 (below_gw W2 x3))
    subst hx4
    have HTR := Lib.hid hTR; clear hB3 hTR
    refine hKK _ _ (contQ_nil ⟨⟨_, rfl⟩, ?_⟩)
    clear hKK KK
    refine wpSeg_nil ?_
    simp only [pickL, List.getElem?_cons_zero, List.getElem?_cons_succ]
    repeat (go_big_quiet_step (fail))
    refine wpQuiet_nil ?_
    refine contN_nil ?_
    have HOD := Lib.hid (own_below HOC.out (below_gw W2 x4))
    obtain ⟨W3, hW3⟩ : ∃ W3, gw W2 x4 = W3 := ⟨_, rfl⟩
    have hbW3 : Below W2.heap.size W2 W3 := by rw [← hW3]; exact below_gw W2 x4
    have ZyW3 := Lib.hid ((hbW3.block _ (Array.getElem?_eq_some_iff.1 ZyW2.out).1).trans ZyW2.out)
    have ZvW3 := Lib.hid ((hbW3.block _ (Array.getElem?_eq_some_iff.1 ZvW2.out).1).trans ZvW2.out)
    have ZlW3 := Lib.hid ((hbW3.block _ (Array.getElem?_eq_some_iff.1 ZlW2.out).1).trans ZlW2.out)
    have ZmW3 := Lib.hid ((hbW3.block _ (Array.getElem?_eq_some_iff.1 ZmW2.out).1).trans ZmW2.out)
    have HBW3 := Lib.hid (thru hbW3 HBW2.out)
    have SBW3 := Lib.hid hbW3; clear hbW3
    have HWW3 := Lib.hid hW3; clear hW3
    rw [HWW3.out]
    clear ey0W2 ey1W2 ey2W2 ey3W2 ey4W2 ey5W2 ey6W2 ey7W2 em0W2 em1W2 em2W2 em3W2 em4W2 em5W2 em6W2 em7W2 em8W2 em9W2 em10W2 em11W2 em12W2
    have S3 := Lib.hid (S2.out.trans (SBW3.out.mono S2.out.size))
    have HOE := HOD.out
    have HTE := HTR.out
    rw [HWW3.out] at HOE HTE
    have HOF := Lib.hid HOE; have HTF := Lib.hid HTE; clear HOE HTE
    have zuW3 := (thru SBW3.out SBW2.out : Below u1.heap.size u1 W3).size
    obtain ⟨j0, jh, jy0, jy1, jy2⟩ := info_parts infoVat
    have JI := Lib.hid jh; have Y0 := Lib.hid jy0; have Y1 := Lib.hid jy1; have Y2 := Lib.hid jy2
    clear jh jy0 jy1 jy2
    go_wp2_with (at_builtin; refine wpList_append_src (by rfl) _ _ 40 rfl u1.heap.size 38 j0 (.agg #[.int .i64 0, .int .i64 0, .int .i64 0, .int .i64 0, .int .i64 0, .int .i64 0, .int .i64 0, .int .i64 0, .int .i64 0, .int .i64 0, .int .i64 0, .int .i64 0, .int .i64 0]) 13 104 Try.underlying40 JI.out Y0.out Y1.out Y2.out rfl (by decide) _ j (y.outs v F G j) rfl HOF.out aB (k - j) cB _ rfl (tupsV_len _ _ _) (tups_news HTF.out) (tupsV_one _ _ _) (by unfold maxLen; omega) (by omega) (by omega) ?_; intro v9 w9 hown9 hgrow9)
    rw [OD.out, show j + (k - j) = k by omega] at hown9
    have z9 := hgrow9.size
    have S9 := Lib.hid (S3.out.grown hgrow9 S3.out.size (fun g hg => by have := (HOF.out.lt g hg).1; omega))
    have HB9 := Lib.hid (HBW3.out.grown hgrow9 HBW3.out.size (fun g hg => by have := (HOF.out.lt g hg).1; omega))
    have U9 := Lib.hid ((thru SBW3.out SBW2.out : Below u1.heap.size u1 W3).grown hgrow9 (by omega) (fun g hg => (HOF.out.lt g hg).1))
    have Zyw9 := Lib.hid ((hgrow9.block (w.heap.size) (Array.getElem?_eq_some_iff.1 ZyW3.out).1 (by have := row_low HOF.out (B := w.heap.size) (by omega); first | exact this | exact Ne.symm this)).trans ZyW3.out)
    have Zvw9 := Lib.hid ((hgrow9.block (w.heap.size + 1) (Array.getElem?_eq_some_iff.1 ZvW3.out).1 (by have := row_low HOF.out (B := w.heap.size + 1) (by omega); first | exact this | exact Ne.symm this)).trans ZvW3.out)
    have Zlw9 := Lib.hid ((hgrow9.block (w.heap.size + 1 + 1) (Array.getElem?_eq_some_iff.1 ZlW3.out).1 (by have := row_low HOF.out (B := w.heap.size + 1 + 1) (by omega); first | exact this | exact Ne.symm this)).trans ZlW3.out)
    obtain ⟨a9, c9, rfl, hT9⟩ := tups_of_own hown9
    have SS := Lib.hid (sameVats_t a9 a1 k c9 c1 _ w9 (by omega) hT9 (HT1.out.below U9.out))
    have HT9 := Lib.hid (HT1.out.below U9.out)
    clear hown9 hgrow9 hT9
    go_wp2_with fail
    refine (Calls.grown (SS.out)).mono ?_
    rintro e w1 ⟨rfl, z1, rfl⟩
    by_cases kp : 0 < k
    rotate_left
    · skip
      go_upto_region 19 with (fail)
      obtain ⟨W4, hW4⟩ : ∃ W4, gw w9 z1 = W4 := ⟨_, rfl⟩
      have hbW4 : Below w9.heap.size w9 W4 := by rw [← hW4]; exact below_gw w9 z1
      have ZyW4 := Lib.hid ((hbW4.block _ (Array.getElem?_eq_some_iff.1 Zyw9.out).1).trans Zyw9.out)
      have ZvW4 := Lib.hid ((hbW4.block _ (Array.getElem?_eq_some_iff.1 Zvw9.out).1).trans Zvw9.out)
      have ZlW4 := Lib.hid ((hbW4.block _ (Array.getElem?_eq_some_iff.1 Zlw9.out).1).trans Zlw9.out)
      have HBW4 := Lib.hid (thru hbW4 HB9.out)
      have SBW4 := Lib.hid hbW4; clear hbW4
      have HWW4 := Lib.hid hW4; clear hW4
      rw [HWW4.out]
      have S4 := Lib.hid (S9.out.trans (SBW4.out.mono S9.out.size))
      have ey0W4 : W4.cell? ⟨w.heap.size, 0, none⟩ = some (.slice y.aT y.nT y.cT) := cell_of_block ZyW4.out 0 (by simp)
      have ey1W4 : W4.cell? ⟨w.heap.size, 1, none⟩ = some (.slice y.aR y.nR y.cR) := cell_of_block ZyW4.out 1 (by simp)
      have ey2W4 : W4.cell? ⟨w.heap.size, 2, none⟩ = some (.int .i64 y.sl) := cell_of_block ZyW4.out 2 (by simp)
      have ey3W4 : W4.cell? ⟨w.heap.size, 3, none⟩ = some (.int .i64 y.sh) := cell_of_block ZyW4.out 3 (by simp)
      have ey4W4 : W4.cell? ⟨w.heap.size, 4, none⟩ = some (.int .i64 y.gl) := cell_of_block ZyW4.out 4 (by simp)
      have ey5W4 : W4.cell? ⟨w.heap.size, 5, none⟩ = some (.int .i64 y.gh) := cell_of_block ZyW4.out 5 (by simp)
      have ey6W4 : W4.cell? ⟨w.heap.size, 6, none⟩ = some (.int .i64 y.hl) := cell_of_block ZyW4.out 6 (by simp)
      have ey7W4 : W4.cell? ⟨w.heap.size, 7, none⟩ = some (.int .i64 y.hh) := cell_of_block ZyW4.out 7 (by simp)
      have lyW4 := (Array.getElem?_eq_some_iff.1 ZyW4.out).1
      have ev0W4 : W4.cell? ⟨w.heap.size + 1, 0, none⟩ = some (.int .i64 v.sl) := cell_of_block ZvW4.out 0 (by simp)
      have ev1W4 : W4.cell? ⟨w.heap.size + 1, 1, none⟩ = some (.int .i64 v.sh) := cell_of_block ZvW4.out 1 (by simp)
      have ev2W4 : W4.cell? ⟨w.heap.size + 1, 2, none⟩ = some (.int .i64 v.el) := cell_of_block ZvW4.out 2 (by simp)
      have ev3W4 : W4.cell? ⟨w.heap.size + 1, 3, none⟩ = some (.int .i64 v.eh) := cell_of_block ZvW4.out 3 (by simp)
      have ev4W4 : W4.cell? ⟨w.heap.size + 1, 4, none⟩ = some (.int .i64 v.pl) := cell_of_block ZvW4.out 4 (by simp)
      have ev5W4 : W4.cell? ⟨w.heap.size + 1, 5, none⟩ = some (.int .i64 v.ph) := cell_of_block ZvW4.out 5 (by simp)
      have ev6W4 : W4.cell? ⟨w.heap.size + 1, 6, none⟩ = some (.int .i64 v.gl) := cell_of_block ZvW4.out 6 (by simp)
      have ev7W4 : W4.cell? ⟨w.heap.size + 1, 7, none⟩ = some (.int .i64 v.gh) := cell_of_block ZvW4.out 7 (by simp)
      have ev8W4 : W4.cell? ⟨w.heap.size + 1, 8, none⟩ = some (.int .i64 v.ol) := cell_of_block ZvW4.out 8 (by simp)
      have ev9W4 : W4.cell? ⟨w.heap.size + 1, 9, none⟩ = some (.int .i64 v.oh) := cell_of_block ZvW4.out 9 (by simp)
      have ev10W4 : W4.cell? ⟨w.heap.size + 1, 10, none⟩ = some (.int .i64 v.tl) := cell_of_block ZvW4.out 10 (by simp)
      have ev11W4 : W4.cell? ⟨w.heap.size + 1, 11, none⟩ = some (.int .i64 v.th) := cell_of_block ZvW4.out 11 (by simp)
      have ev12W4 : W4.cell? ⟨w.heap.size + 1, 12, none⟩ = some (.int .i64 v.c) := cell_of_block ZvW4.out 12 (by simp)
      have lvW4 := (Array.getElem?_eq_some_iff.1 ZvW4.out).1
      have el0W4 : W4.cell? ⟨w.heap.size + 1 + 1, 0, none⟩ = some (.int .i64 ll) := cell_of_block ZlW4.out 0 (by simp)
      have el1W4 : W4.cell? ⟨w.heap.size + 1 + 1, 1, none⟩ = some (.int .i64 lh) := cell_of_block ZlW4.out 1 (by simp)
      have llW4 := (Array.getElem?_eq_some_iff.1 ZlW4.out).1
      go_wp2_with fail
      refine (Calls.grown (FJ'.out _ (S4.out))).mono ?_
      rintro e w1 ⟨rfl, z2, rfl⟩
      go_upto_region 20 with (fail)
      obtain ⟨W5, hW5⟩ : ∃ W5, gw W4 z2 = W5 := ⟨_, rfl⟩
      have hbW5 : Below W4.heap.size W4 W5 := by rw [← hW5]; exact below_gw W4 z2
      have ZyW5 := Lib.hid ((hbW5.block _ (Array.getElem?_eq_some_iff.1 ZyW4.out).1).trans ZyW4.out)
      have ZvW5 := Lib.hid ((hbW5.block _ (Array.getElem?_eq_some_iff.1 ZvW4.out).1).trans ZvW4.out)
      have ZlW5 := Lib.hid ((hbW5.block _ (Array.getElem?_eq_some_iff.1 ZlW4.out).1).trans ZlW4.out)
      have HBW5 := Lib.hid (thru hbW5 HBW4.out)
      have SBW5 := Lib.hid hbW5; clear hbW5
      have HWW5 := Lib.hid hW5; clear hW5
      rw [HWW5.out]
      clear ey0W4 ey1W4 ey2W4 ey3W4 ey4W4 ey5W4 ey6W4 ey7W4 ev0W4 ev1W4 ev2W4 ev3W4 ev4W4 ev5W4 ev6W4 ev7W4 ev8W4 ev9W4 ev10W4 ev11W4 ev12W4 el0W4 el1W4
      have S5 := Lib.hid (S4.out.trans (SBW5.out.mono S4.out.size))
      have HL := Lib.hid (HT9.out.below (thru SBW5.out (SBW4.out)))
      go_wp2_with fail
      go_loopw [172] (fun i wr => ∃ t : Nat, t ≤ k ∧ i = .int .i64 t ∧ Hid (∀ s, s < t → inB' y v F G ll lh s = true) ∧ ∃ x, wr = gw W5 x) (fun i _ => k - (intOf i).toNat)
      case atStart => exact ⟨0, Nat.zero_le _, rfl, Lib.hid (fun s hs => absurd hs (Nat.not_lt_zero s)), ⟨#[], W5.drawn⟩, by simp [gw]⟩
      case round =>
        obtain ⟨t, ht, rfl, HP, x, rfl⟩ := hrel
        by_cases hlt : t < k
        rotate_left
        · obtain rfl : t = k := by omega
          obtain ⟨rfl, rfl⟩ := HN.out HP.out
          go_wp2_with fail
          refine (Calls.gw_of (alive_any _)).mono ?_
          rintro e w1 ⟨rfl, z3, rfl⟩
          go_wp2_with fail
          go_ret
          exact ⟨rfl, HBW5.out.gw z3⟩
        exact absurd hlt (by omega)
    go_upto_region 16 with (fail)
    obtain ⟨W4, hW4⟩ : ∃ W4, gw w9 z1 = W4 := ⟨_, rfl⟩
    have hbW4 : Below w9.heap.size w9 W4 := by rw [← hW4]; exact below_gw w9 z1
    have ZyW4 := Lib.hid ((hbW4.block _ (Array.getElem?_eq_some_iff.1 Zyw9.out).1).trans Zyw9.out)
    have ZvW4 := Lib.hid ((hbW4.block _ (Array.getElem?_eq_some_iff.1 Zvw9.out).1).trans Zvw9.out)
    have ZlW4 := Lib.hid ((hbW4.block _ (Array.getElem?_eq_some_iff.1 Zlw9.out).1).trans Zlw9.out)
    have HBW4 := Lib.hid (thru hbW4 HB9.out)
    have SBW4 := Lib.hid hbW4; clear hbW4
    have HWW4 := Lib.hid hW4; clear hW4
    rw [HWW4.out]
    have S4 := Lib.hid (S9.out.trans (SBW4.out.mono S9.out.size))
    have ey0W4 : W4.cell? ⟨w.heap.size, 0, none⟩ = some (.slice y.aT y.nT y.cT) := cell_of_block ZyW4.out 0 (by simp)
    have ey1W4 : W4.cell? ⟨w.heap.size, 1, none⟩ = some (.slice y.aR y.nR y.cR) := cell_of_block ZyW4.out 1 (by simp)
    have ey2W4 : W4.cell? ⟨w.heap.size, 2, none⟩ = some (.int .i64 y.sl) := cell_of_block ZyW4.out 2 (by simp)
    have ey3W4 : W4.cell? ⟨w.heap.size, 3, none⟩ = some (.int .i64 y.sh) := cell_of_block ZyW4.out 3 (by simp)
    have ey4W4 : W4.cell? ⟨w.heap.size, 4, none⟩ = some (.int .i64 y.gl) := cell_of_block ZyW4.out 4 (by simp)
    have ey5W4 : W4.cell? ⟨w.heap.size, 5, none⟩ = some (.int .i64 y.gh) := cell_of_block ZyW4.out 5 (by simp)
    have ey6W4 : W4.cell? ⟨w.heap.size, 6, none⟩ = some (.int .i64 y.hl) := cell_of_block ZyW4.out 6 (by simp)
    have ey7W4 : W4.cell? ⟨w.heap.size, 7, none⟩ = some (.int .i64 y.hh) := cell_of_block ZyW4.out 7 (by simp)
    have lyW4 := (Array.getElem?_eq_some_iff.1 ZyW4.out).1
    have ev0W4 : W4.cell? ⟨w.heap.size + 1, 0, none⟩ = some (.int .i64 v.sl) := cell_of_block ZvW4.out 0 (by simp)
    have ev1W4 : W4.cell? ⟨w.heap.size + 1, 1, none⟩ = some (.int .i64 v.sh) := cell_of_block ZvW4.out 1 (by simp)
    have ev2W4 : W4.cell? ⟨w.heap.size + 1, 2, none⟩ = some (.int .i64 v.el) := cell_of_block ZvW4.out 2 (by simp)
    have ev3W4 : W4.cell? ⟨w.heap.size + 1, 3, none⟩ = some (.int .i64 v.eh) := cell_of_block ZvW4.out 3 (by simp)
    have ev4W4 : W4.cell? ⟨w.heap.size + 1, 4, none⟩ = some (.int .i64 v.pl) := cell_of_block ZvW4.out 4 (by simp)
    have ev5W4 : W4.cell? ⟨w.heap.size + 1, 5, none⟩ = some (.int .i64 v.ph) := cell_of_block ZvW4.out 5 (by simp)
    have ev6W4 : W4.cell? ⟨w.heap.size + 1, 6, none⟩ = some (.int .i64 v.gl) := cell_of_block ZvW4.out 6 (by simp)
    have ev7W4 : W4.cell? ⟨w.heap.size + 1, 7, none⟩ = some (.int .i64 v.gh) := cell_of_block ZvW4.out 7 (by simp)
    have ev8W4 : W4.cell? ⟨w.heap.size + 1, 8, none⟩ = some (.int .i64 v.ol) := cell_of_block ZvW4.out 8 (by simp)
    have ev9W4 : W4.cell? ⟨w.heap.size + 1, 9, none⟩ = some (.int .i64 v.oh) := cell_of_block ZvW4.out 9 (by simp)
    have ev10W4 : W4.cell? ⟨w.heap.size + 1, 10, none⟩ = some (.int .i64 v.tl) := cell_of_block ZvW4.out 10 (by simp)
    have ev11W4 : W4.cell? ⟨w.heap.size + 1, 11, none⟩ = some (.int .i64 v.th) := cell_of_block ZvW4.out 11 (by simp)
    have ev12W4 : W4.cell? ⟨w.heap.size + 1, 12, none⟩ = some (.int .i64 v.c) := cell_of_block ZvW4.out 12 (by simp)
    have lvW4 := (Array.getElem?_eq_some_iff.1 ZvW4.out).1
    obtain ⟨bc, oc, ec, lc, hcc⟩ := (HSW.out.below S4.out).resolve_left (by omega)
    cases ec
    obtain ⟨q0, q1⟩ := hcc 0 kp
    simp only [Nat.zero_mul, Nat.add_zero] at q0 q1
    clear hcc
    have HO := fun W (hb : Below W1.heap.size W1 W) => Hour_any y v (F 0) (G 0) W (HIW.out.below hb) hf
    obtain ⟨h1, h2⟩ := hour_first E0.out kp
    simp only [h1, h2] at HO
    clear h1 h2
    obtain ⟨H, hH⟩ : ∃ H, y.vs v F G 1 = H := ⟨_, rfl⟩
    simp only [hH] at HO
    obtain ⟨f, hf0⟩ : ∃ f, F 0 = f := ⟨_, rfl⟩
    obtain ⟨g, hg0⟩ : ∃ g, G 0 = g := ⟨_, rfl⟩
    rw [hf0] at q0
    rw [hg0] at q1
    simp only [hf0, hg0] at HO
    clear hf0 hg0
    unfold Yst.val Vat.val at HO
    have HO' := Lib.hid HO; have HHV := Lib.hid hH; clear HO hH
    refine wp_region_box1 [true, true, true, true, true, true, true, true, true, false, false, true] 9 10 #[.int .i64 0, .int .i64 0, .int .i64 0, .int .i64 0, .int .i64 0, .int .i64 0, .int .i64 0, .int .i64 0, .int .i64 0, .int .i64 0, .int .i64 0, .int .i64 0, .int .i64 0] #[.int .i64 H.sl, .int .i64 H.sh, .int .i64 H.el, .int .i64 H.eh, .int .i64 H.pl, .int .i64 H.ph, .int .i64 H.gl, .int .i64 H.gh, .int .i64 H.ol, .int .i64 H.oh, .int .i64 H.tl, .int .i64 H.th, .int .i64 H.c] (by kernel_rfl) rfl rfl rfl (by kernel_rfl) rfl (by kernel_rfl) infoVat2 rfl rfl (by simp [Value.oneCell']) ?_
    apply Exists.intro
    refine ⟨fun S hS hx => ?_, ?_, ?_⟩
    · obtain ⟨x0, hx0⟩ := hx
      haveI : Nonempty (GrewS W4 S) := ⟨⟨x0, hx0⟩⟩
      simp only [pickM]
      repeat (go_big_quiet_step ((go_at_call 34; with_reducible exact Calls.gwS hS (HO'.out _ (S4.out.trans ((below_gw W4 _).mono S4.out.size))))))
      exact wpQuiet_nil rfl
    · rfl
    · intro B10 w10 hBw hblk hb10
      have HK := Lib.hid hblk; clear hblk
      have SBw10 := Lib.hid (hb10)
      have Zyw10 := Lib.hid ((SBw10.out.block _ (Array.getElem?_eq_some_iff.1 ZyW4.out).1).trans ZyW4.out)
      have Zvw10 := Lib.hid ((SBw10.out.block _ (Array.getElem?_eq_some_iff.1 ZvW4.out).1).trans ZvW4.out)
      have Zlw10 := Lib.hid ((SBw10.out.block _ (Array.getElem?_eq_some_iff.1 ZlW4.out).1).trans ZlW4.out)
      have HBw10 := Lib.hid (thru SBw10.out HBW4.out)
      have Sw10 := Lib.hid (S4.out.trans (SBw10.out.mono S4.out.size))
      clear hb10 q0 q1 ey0W4 ey1W4 ey2W4 ey3W4 ey4W4 ey5W4 ey6W4 ey7W4 ev0W4 ev1W4 ev2W4 ev3W4 ev4W4 ev5W4 ev6W4 ev7W4 ev8W4 ev9W4 ev10W4 ev11W4 ev12W4
      go_upto_region 17 with (fail)
      simp only [Act.put, List.setIfInBounds_toArray, List.set_cons_succ, List.set_cons_zero]
      have eh0w10 : w10.cell? ⟨B10, 0, none⟩ = some (.int .i64 H.sl) := cell_of_block HK.out 0 (by simp)
      have eh1w10 : w10.cell? ⟨B10, 1, none⟩ = some (.int .i64 H.sh) := cell_of_block HK.out 1 (by simp)
      have eh2w10 : w10.cell? ⟨B10, 2, none⟩ = some (.int .i64 H.el) := cell_of_block HK.out 2 (by simp)
      have eh3w10 : w10.cell? ⟨B10, 3, none⟩ = some (.int .i64 H.eh) := cell_of_block HK.out 3 (by simp)
      have eh4w10 : w10.cell? ⟨B10, 4, none⟩ = some (.int .i64 H.pl) := cell_of_block HK.out 4 (by simp)
      have eh5w10 : w10.cell? ⟨B10, 5, none⟩ = some (.int .i64 H.ph) := cell_of_block HK.out 5 (by simp)
      have eh6w10 : w10.cell? ⟨B10, 6, none⟩ = some (.int .i64 H.gl) := cell_of_block HK.out 6 (by simp)
      have eh7w10 : w10.cell? ⟨B10, 7, none⟩ = some (.int .i64 H.gh) := cell_of_block HK.out 7 (by simp)
      have eh8w10 : w10.cell? ⟨B10, 8, none⟩ = some (.int .i64 H.ol) := cell_of_block HK.out 8 (by simp)
      have eh9w10 : w10.cell? ⟨B10, 9, none⟩ = some (.int .i64 H.oh) := cell_of_block HK.out 9 (by simp)
      have eh10w10 : w10.cell? ⟨B10, 10, none⟩ = some (.int .i64 H.tl) := cell_of_block HK.out 10 (by simp)
      have eh11w10 : w10.cell? ⟨B10, 11, none⟩ = some (.int .i64 H.th) := cell_of_block HK.out 11 (by simp)
      have eh12w10 : w10.cell? ⟨B10, 12, none⟩ = some (.int .i64 H.c) := cell_of_block HK.out 12 (by simp)
      have lhw10 := (Array.getElem?_eq_some_iff.1 HK.out).1
      obtain ⟨bn, on, en, lbn, hcn⟩ := (HT9.out.below (thru SBw10.out (SBW4.out))).resolve_left (by omega)
      cases en
      replace hcn : ∀ q, q < 13 → w10.cell? ⟨bn, on + 0 * 13 + q, none⟩ = some (.int .i64 (H.num q)) := by rw [← show y.vs v F G (0 + 1) = H from HHV.out]; exact hcn 0 kp
      have d0 : w10.cell? ⟨bn, on + 0 * 13 + 0, none⟩ = some (.int .i64 H.sl) := hcn 0 (by omega)
      have d1 : w10.cell? ⟨bn, on + 0 * 13 + 1, none⟩ = some (.int .i64 H.sh) := hcn 1 (by omega)
      have d2 : w10.cell? ⟨bn, on + 0 * 13 + 2, none⟩ = some (.int .i64 H.el) := hcn 2 (by omega)
      have d3 : w10.cell? ⟨bn, on + 0 * 13 + 3, none⟩ = some (.int .i64 H.eh) := hcn 3 (by omega)
      have d4 : w10.cell? ⟨bn, on + 0 * 13 + 4, none⟩ = some (.int .i64 H.pl) := hcn 4 (by omega)
      have d5 : w10.cell? ⟨bn, on + 0 * 13 + 5, none⟩ = some (.int .i64 H.ph) := hcn 5 (by omega)
      have d6 : w10.cell? ⟨bn, on + 0 * 13 + 6, none⟩ = some (.int .i64 H.gl) := hcn 6 (by omega)
      have d7 : w10.cell? ⟨bn, on + 0 * 13 + 7, none⟩ = some (.int .i64 H.gh) := hcn 7 (by omega)
      have d8 : w10.cell? ⟨bn, on + 0 * 13 + 8, none⟩ = some (.int .i64 H.ol) := hcn 8 (by omega)
      have d9 : w10.cell? ⟨bn, on + 0 * 13 + 9, none⟩ = some (.int .i64 H.oh) := hcn 9 (by omega)
      have d10 : w10.cell? ⟨bn, on + 0 * 13 + 10, none⟩ = some (.int .i64 H.tl) := hcn 10 (by omega)
      have d11 : w10.cell? ⟨bn, on + 0 * 13 + 11, none⟩ = some (.int .i64 H.th) := hcn 11 (by omega)
      have d12 : w10.cell? ⟨bn, on + 0 * 13 + 12, none⟩ = some (.int .i64 H.c) := hcn 12 (by omega)
      simp only [Nat.zero_mul, Nat.add_zero] at d0 d1 d2 d3 d4 d5 d6 d7 d8 d9 d10 d11 d12
      clear hcn
      refine wp_region_gw (by kernel_rfl) (by kernel_rfl) ?_
      repeat (go_big_quiet_step (fail))
      refine wpQuiet_nil ?_
      rintro _ ⟨z40, rfl⟩
      go_upto_region 19 with (fail)
      obtain ⟨W12, hW12⟩ : ∃ W12, gw w10 z40 = W12 := ⟨_, rfl⟩
      have hbW12 : Below w10.heap.size w10 W12 := by rw [← hW12]; exact below_gw w10 z40
      have ZyW12 := Lib.hid ((hbW12.block _ (Array.getElem?_eq_some_iff.1 Zyw10.out).1).trans Zyw10.out)
      have ZvW12 := Lib.hid ((hbW12.block _ (Array.getElem?_eq_some_iff.1 Zvw10.out).1).trans Zvw10.out)
      have ZlW12 := Lib.hid ((hbW12.block _ (Array.getElem?_eq_some_iff.1 Zlw10.out).1).trans Zlw10.out)
      have ZhW12 := Lib.hid ((hbW12.block _ (Array.getElem?_eq_some_iff.1 HK.out).1).trans HK.out)
      have HBW12 := Lib.hid (thru hbW12 HBw10.out)
      have SBW12 := Lib.hid hbW12; clear hbW12
      have HWW12 := Lib.hid hW12; clear hW12
      rw [HWW12.out]
      clear d0 d1 d2 d3 d4 d5 d6 d7 d8 d9 d10 d11 d12 eh0w10 eh1w10 eh2w10 eh3w10 eh4w10 eh5w10 eh6w10 eh7w10 eh8w10 eh9w10 eh10w10 eh11w10 eh12w10
      have S12 := Lib.hid (Sw10.out.trans (SBW12.out.mono Sw10.out.size))
      have ey0W12 : W12.cell? ⟨w.heap.size, 0, none⟩ = some (.slice y.aT y.nT y.cT) := cell_of_block ZyW12.out 0 (by simp)
      have ey1W12 : W12.cell? ⟨w.heap.size, 1, none⟩ = some (.slice y.aR y.nR y.cR) := cell_of_block ZyW12.out 1 (by simp)
      have ey2W12 : W12.cell? ⟨w.heap.size, 2, none⟩ = some (.int .i64 y.sl) := cell_of_block ZyW12.out 2 (by simp)
      have ey3W12 : W12.cell? ⟨w.heap.size, 3, none⟩ = some (.int .i64 y.sh) := cell_of_block ZyW12.out 3 (by simp)
      have ey4W12 : W12.cell? ⟨w.heap.size, 4, none⟩ = some (.int .i64 y.gl) := cell_of_block ZyW12.out 4 (by simp)
      have ey5W12 : W12.cell? ⟨w.heap.size, 5, none⟩ = some (.int .i64 y.gh) := cell_of_block ZyW12.out 5 (by simp)
      have ey6W12 : W12.cell? ⟨w.heap.size, 6, none⟩ = some (.int .i64 y.hl) := cell_of_block ZyW12.out 6 (by simp)
      have ey7W12 : W12.cell? ⟨w.heap.size, 7, none⟩ = some (.int .i64 y.hh) := cell_of_block ZyW12.out 7 (by simp)
      have lyW12 := (Array.getElem?_eq_some_iff.1 ZyW12.out).1
      have ev0W12 : W12.cell? ⟨w.heap.size + 1, 0, none⟩ = some (.int .i64 v.sl) := cell_of_block ZvW12.out 0 (by simp)
      have ev1W12 : W12.cell? ⟨w.heap.size + 1, 1, none⟩ = some (.int .i64 v.sh) := cell_of_block ZvW12.out 1 (by simp)
      have ev2W12 : W12.cell? ⟨w.heap.size + 1, 2, none⟩ = some (.int .i64 v.el) := cell_of_block ZvW12.out 2 (by simp)
      have ev3W12 : W12.cell? ⟨w.heap.size + 1, 3, none⟩ = some (.int .i64 v.eh) := cell_of_block ZvW12.out 3 (by simp)
      have ev4W12 : W12.cell? ⟨w.heap.size + 1, 4, none⟩ = some (.int .i64 v.pl) := cell_of_block ZvW12.out 4 (by simp)
      have ev5W12 : W12.cell? ⟨w.heap.size + 1, 5, none⟩ = some (.int .i64 v.ph) := cell_of_block ZvW12.out 5 (by simp)
      have ev6W12 : W12.cell? ⟨w.heap.size + 1, 6, none⟩ = some (.int .i64 v.gl) := cell_of_block ZvW12.out 6 (by simp)
      have ev7W12 : W12.cell? ⟨w.heap.size + 1, 7, none⟩ = some (.int .i64 v.gh) := cell_of_block ZvW12.out 7 (by simp)
      have ev8W12 : W12.cell? ⟨w.heap.size + 1, 8, none⟩ = some (.int .i64 v.ol) := cell_of_block ZvW12.out 8 (by simp)
      have ev9W12 : W12.cell? ⟨w.heap.size + 1, 9, none⟩ = some (.int .i64 v.oh) := cell_of_block ZvW12.out 9 (by simp)
      have ev10W12 : W12.cell? ⟨w.heap.size + 1, 10, none⟩ = some (.int .i64 v.tl) := cell_of_block ZvW12.out 10 (by simp)
      have ev11W12 : W12.cell? ⟨w.heap.size + 1, 11, none⟩ = some (.int .i64 v.th) := cell_of_block ZvW12.out 11 (by simp)
      have ev12W12 : W12.cell? ⟨w.heap.size + 1, 12, none⟩ = some (.int .i64 v.c) := cell_of_block ZvW12.out 12 (by simp)
      have lvW12 := (Array.getElem?_eq_some_iff.1 ZvW12.out).1
      have el0W12 : W12.cell? ⟨w.heap.size + 1 + 1, 0, none⟩ = some (.int .i64 ll) := cell_of_block ZlW12.out 0 (by simp)
      have el1W12 : W12.cell? ⟨w.heap.size + 1 + 1, 1, none⟩ = some (.int .i64 lh) := cell_of_block ZlW12.out 1 (by simp)
      have llW12 := (Array.getElem?_eq_some_iff.1 ZlW12.out).1
      go_wp2_with fail
      refine (Calls.grown (FJ'.out _ (S12.out))).mono ?_
      rintro e w1 ⟨rfl, z41, rfl⟩
      go_upto_region 20 with (fail)
      obtain ⟨W13, hW13⟩ : ∃ W13, gw W12 z41 = W13 := ⟨_, rfl⟩
      have hbW13 : Below W12.heap.size W12 W13 := by rw [← hW13]; exact below_gw W12 z41
      have ZyW13 := Lib.hid ((hbW13.block _ (Array.getElem?_eq_some_iff.1 ZyW12.out).1).trans ZyW12.out)
      have ZvW13 := Lib.hid ((hbW13.block _ (Array.getElem?_eq_some_iff.1 ZvW12.out).1).trans ZvW12.out)
      have ZlW13 := Lib.hid ((hbW13.block _ (Array.getElem?_eq_some_iff.1 ZlW12.out).1).trans ZlW12.out)
      have ZhW13 := Lib.hid ((hbW13.block _ (Array.getElem?_eq_some_iff.1 ZhW12.out).1).trans ZhW12.out)
      have HBW13 := Lib.hid (thru hbW13 HBW12.out)
      have SBW13 := Lib.hid hbW13; clear hbW13
      have HWW13 := Lib.hid hW13; clear hW13
      rw [HWW13.out]
      clear ey0W12 ey1W12 ey2W12 ey3W12 ey4W12 ey5W12 ey6W12 ey7W12 ev0W12 ev1W12 ev2W12 ev3W12 ev4W12 ev5W12 ev6W12 ev7W12 ev8W12 ev9W12 ev10W12 ev11W12 ev12W12 el0W12 el1W12
      have S13 := Lib.hid (S12.out.trans (SBW13.out.mono S12.out.size))
      have HL := Lib.hid (HT9.out.below (thru SBW13.out (thru SBW12.out (thru SBw10.out (SBW4.out)))))
      go_wp2_with fail
      go_loopw [172] (fun i wr => ∃ t : Nat, t ≤ k ∧ i = .int .i64 t ∧ Hid (∀ s, s < t → inB' y v F G ll lh s = true) ∧ ∃ x, wr = gw W13 x) (fun i _ => k - (intOf i).toNat)
      case atStart => exact ⟨0, Nat.zero_le _, rfl, Lib.hid (fun s hs => absurd hs (Nat.not_lt_zero s)), ⟨#[], W13.drawn⟩, by simp [gw]⟩
      case round =>
        obtain ⟨t, ht, rfl, HP, x, rfl⟩ := hrel
        by_cases hlt : t < k
        rotate_left
        · obtain rfl : t = k := by omega
          obtain ⟨rfl, rfl⟩ := HN.out HP.out
          go_wp2_with fail
          refine (Calls.gw_of (alive_any _)).mono ?_
          rintro e w1 ⟨rfl, z42, rfl⟩
          go_wp2_with fail
          go_ret
          exact ⟨rfl, HBW13.out.gw z42⟩
        obtain ⟨bm, om, em, lbm, hcm⟩ := HL.out.resolve_left (by omega)
        cases em
        replace hcm := hcm t hlt
        obtain ⟨Z, hZ⟩ : ∃ Z, y.vs v F G (t + 1) = Z := ⟨_, rfl⟩
        simp only [hZ] at hcm
        have d0 : W13.cell? ⟨bn, on + t * 13, none⟩ = some (.int .i64 Z.sl) := hcm 0 (by omega)
        have d1 : W13.cell? ⟨bn, on + t * 13 + 1, none⟩ = some (.int .i64 Z.sh) := hcm 1 (by omega)
        have d2 : W13.cell? ⟨bn, on + t * 13 + 2, none⟩ = some (.int .i64 Z.el) := hcm 2 (by omega)
        have d3 : W13.cell? ⟨bn, on + t * 13 + 3, none⟩ = some (.int .i64 Z.eh) := hcm 3 (by omega)
        have d4 : W13.cell? ⟨bn, on + t * 13 + 4, none⟩ = some (.int .i64 Z.pl) := hcm 4 (by omega)
        have d5 : W13.cell? ⟨bn, on + t * 13 + 5, none⟩ = some (.int .i64 Z.ph) := hcm 5 (by omega)
        have d6 : W13.cell? ⟨bn, on + t * 13 + 6, none⟩ = some (.int .i64 Z.gl) := hcm 6 (by omega)
        have d7 : W13.cell? ⟨bn, on + t * 13 + 7, none⟩ = some (.int .i64 Z.gh) := hcm 7 (by omega)
        have d8 : W13.cell? ⟨bn, on + t * 13 + 8, none⟩ = some (.int .i64 Z.ol) := hcm 8 (by omega)
        have d9 : W13.cell? ⟨bn, on + t * 13 + 9, none⟩ = some (.int .i64 Z.oh) := hcm 9 (by omega)
        have d10 : W13.cell? ⟨bn, on + t * 13 + 10, none⟩ = some (.int .i64 Z.tl) := hcm 10 (by omega)
        have d11 : W13.cell? ⟨bn, on + t * 13 + 11, none⟩ = some (.int .i64 Z.th) := hcm 11 (by omega)
        have d12 : W13.cell? ⟨bn, on + t * 13 + 12, none⟩ = some (.int .i64 Z.c) := hcm 12 (by omega)
        clear hcm
        have HZ := Lib.hid hZ; clear hZ
        go_upto_region 23 with (fail)
        obtain ⟨W14, hW14⟩ : ∃ W14, ((gw W13 x)).alloc (.cells #[.int .i64 Z.sl, .int .i64 Z.sh, .int .i64 Z.el, .int .i64 Z.eh, .int .i64 Z.pl, .int .i64 Z.ph, .int .i64 Z.gl, .int .i64 Z.gh, .int .i64 Z.ol, .int .i64 Z.oh, .int .i64 Z.tl, .int .i64 Z.th, .int .i64 Z.c] 38) = W14 := ⟨_, rfl⟩
        have hbW14 : Below W13.heap.size W13 W14 := by rw [← hW14]; exact (below_gw W13 x).alloc (by simp [gw_size]) _
        have ZyW14 := Lib.hid ((hbW14.block _ (Array.getElem?_eq_some_iff.1 ZyW13.out).1).trans ZyW13.out)
        have ZvW14 := Lib.hid ((hbW14.block _ (Array.getElem?_eq_some_iff.1 ZvW13.out).1).trans ZvW13.out)
        have ZlW14 := Lib.hid ((hbW14.block _ (Array.getElem?_eq_some_iff.1 ZlW13.out).1).trans ZlW13.out)
        have ZhW14 := Lib.hid ((hbW14.block _ (Array.getElem?_eq_some_iff.1 ZhW13.out).1).trans ZhW13.out)
        have zxW14 : W14.heap[W13.heap.size + x.bs.size]? = some (.cells #[.int .i64 Z.sl, .int .i64 Z.sh, .int .i64 Z.el, .int .i64 Z.eh, .int .i64 Z.pl, .int .i64 Z.ph, .int .i64 Z.gl, .int .i64 Z.gh, .int .i64 Z.ol, .int .i64 Z.oh, .int .i64 Z.tl, .int .i64 Z.th, .int .i64 Z.c] 38 (0, 0)) := by rw [← hW14]; exact alloc_at (by simp [gw_size])
        have ZxW14 := Lib.hid zxW14; clear zxW14
        have HBW14 := Lib.hid (thru hbW14 HBW13.out)
        have SBW14 := Lib.hid hbW14; clear hbW14
        have HWW14 := Lib.hid hW14; clear hW14
        rw [HWW14.out]
        clear d0 d1 d2 d3 d4 d5 d6 d7 d8 d9 d10 d11 d12
        have S14 := Lib.hid (S13.out.trans (SBW14.out.mono S13.out.size))
        have ex0W14 : W14.cell? ⟨W13.heap.size + x.bs.size, 0, none⟩ = some (.int .i64 Z.sl) := cell_of_block ZxW14.out 0 (by simp)
        have ex1W14 : W14.cell? ⟨W13.heap.size + x.bs.size, 1, none⟩ = some (.int .i64 Z.sh) := cell_of_block ZxW14.out 1 (by simp)
        have ex2W14 : W14.cell? ⟨W13.heap.size + x.bs.size, 2, none⟩ = some (.int .i64 Z.el) := cell_of_block ZxW14.out 2 (by simp)
        have ex3W14 : W14.cell? ⟨W13.heap.size + x.bs.size, 3, none⟩ = some (.int .i64 Z.eh) := cell_of_block ZxW14.out 3 (by simp)
        have ex4W14 : W14.cell? ⟨W13.heap.size + x.bs.size, 4, none⟩ = some (.int .i64 Z.pl) := cell_of_block ZxW14.out 4 (by simp)
        have ex5W14 : W14.cell? ⟨W13.heap.size + x.bs.size, 5, none⟩ = some (.int .i64 Z.ph) := cell_of_block ZxW14.out 5 (by simp)
        have ex6W14 : W14.cell? ⟨W13.heap.size + x.bs.size, 6, none⟩ = some (.int .i64 Z.gl) := cell_of_block ZxW14.out 6 (by simp)
        have ex7W14 : W14.cell? ⟨W13.heap.size + x.bs.size, 7, none⟩ = some (.int .i64 Z.gh) := cell_of_block ZxW14.out 7 (by simp)
        have ex8W14 : W14.cell? ⟨W13.heap.size + x.bs.size, 8, none⟩ = some (.int .i64 Z.ol) := cell_of_block ZxW14.out 8 (by simp)
        have ex9W14 : W14.cell? ⟨W13.heap.size + x.bs.size, 9, none⟩ = some (.int .i64 Z.oh) := cell_of_block ZxW14.out 9 (by simp)
        have ex10W14 : W14.cell? ⟨W13.heap.size + x.bs.size, 10, none⟩ = some (.int .i64 Z.tl) := cell_of_block ZxW14.out 10 (by simp)
        have ex11W14 : W14.cell? ⟨W13.heap.size + x.bs.size, 11, none⟩ = some (.int .i64 Z.th) := cell_of_block ZxW14.out 11 (by simp)
        have ex12W14 : W14.cell? ⟨W13.heap.size + x.bs.size, 12, none⟩ = some (.int .i64 Z.c) := cell_of_block ZxW14.out 12 (by simp)
        have lxW14 := (Array.getElem?_eq_some_iff.1 ZxW14.out).1
        have el0W14 : W14.cell? ⟨w.heap.size + 1 + 1, 0, none⟩ = some (.int .i64 ll) := cell_of_block ZlW14.out 0 (by simp)
        have el1W14 : W14.cell? ⟨w.heap.size + 1 + 1, 1, none⟩ = some (.int .i64 lh) := cell_of_block ZlW14.out 1 (by simp)
        have llW14 := (Array.getElem?_eq_some_iff.1 ZlW14.out).1
        by_cases binl : Z.tl < ll
        · obtain ⟨e1, e2⟩ := HH.out t hlt HP.out (first_bad (.inl (by rw [HZ.out]; omega)))
          subst e1 e2
          go_wp2_with fail
          refine (Calls.grown (alive_any _)).mono ?_
          rintro e w1 ⟨rfl, z42, rfl⟩
          go_wp2_with fail
          go_ret
          exact ⟨rfl, HBW14.out.gw z42⟩
        by_cases binr : lh < Z.th
        · obtain ⟨e1, e2⟩ := HH.out t hlt HP.out (first_bad (.inr (by rw [HZ.out]; omega)))
          subst e1 e2
          go_wp2_with fail
          refine (Calls.grown (alive_any _)).mono ?_
          rintro e w1 ⟨rfl, z42, rfl⟩
          go_wp2_with fail
          go_ret
          exact ⟨rfl, HBW14.out.gw z42⟩
        have HPN := Lib.hid (all_succ (P := fun i => inB' y v F G ll lh i = true) HP.out (first_good (by rw [HZ.out]; omega) (by rw [HZ.out]; omega)))
        obtain ⟨x9, hx9⟩ := gw_of_below SBW14.out
        have HX9 := Lib.hid hx9; clear hx9
        go_wp2_with fail
        go_roundw
        case rel => exact ⟨t + 1, by omega, by go_num, HPN, x9, HX9.out⟩
        case measure => simp [intOf]; omega
  obtain ⟨ba, oa, ea, lba, hca⟩ := HTB.out.resolve_left (by omega)
  cases ea
  have ji : (j : Int) - 1 = ((j - 1 : Nat) : Int) := by omega
  replace hca : ∀ q, q < 13 → W2.cell? ⟨ba, oa + (j - 1) * 13 + q, none⟩ = some (.int .i64 ((y.vs v F G j).num q)) := fun q hq => by have h := hca (j - 1) (by omega) q hq; simp only [show j - 1 + 1 = j by omega] at h; exact h
  obtain ⟨M, hM⟩ : ∃ M, y.vs v F G j = M := ⟨_, rfl⟩
  rw [hM] at hca
  have FB := FB'.out
  have OD_ := OC.out
  simp only [hM] at FB OD_
  have FC' := Lib.hid FB; have OD := Lib.hid OD_; clear FB OD_ hM
  have d0 : W2.cell? ⟨ba, oa + (j - 1) * 13, none⟩ = some (.int .i64 M.sl) := hca 0 (by omega)
  have d1 : W2.cell? ⟨ba, oa + (j - 1) * 13 + 1, none⟩ = some (.int .i64 M.sh) := hca 1 (by omega)
  have d2 : W2.cell? ⟨ba, oa + (j - 1) * 13 + 2, none⟩ = some (.int .i64 M.el) := hca 2 (by omega)
  have d3 : W2.cell? ⟨ba, oa + (j - 1) * 13 + 3, none⟩ = some (.int .i64 M.eh) := hca 3 (by omega)
  have d4 : W2.cell? ⟨ba, oa + (j - 1) * 13 + 4, none⟩ = some (.int .i64 M.pl) := hca 4 (by omega)
  have d5 : W2.cell? ⟨ba, oa + (j - 1) * 13 + 5, none⟩ = some (.int .i64 M.ph) := hca 5 (by omega)
  have d6 : W2.cell? ⟨ba, oa + (j - 1) * 13 + 6, none⟩ = some (.int .i64 M.gl) := hca 6 (by omega)
  have d7 : W2.cell? ⟨ba, oa + (j - 1) * 13 + 7, none⟩ = some (.int .i64 M.gh) := hca 7 (by omega)
  have d8 : W2.cell? ⟨ba, oa + (j - 1) * 13 + 8, none⟩ = some (.int .i64 M.ol) := hca 8 (by omega)
  have d9 : W2.cell? ⟨ba, oa + (j - 1) * 13 + 9, none⟩ = some (.int .i64 M.oh) := hca 9 (by omega)
  have d10 : W2.cell? ⟨ba, oa + (j - 1) * 13 + 10, none⟩ = some (.int .i64 M.tl) := hca 10 (by omega)
  have d11 : W2.cell? ⟨ba, oa + (j - 1) * 13 + 11, none⟩ = some (.int .i64 M.th) := hca 11 (by omega)
  have d12 : W2.cell? ⟨ba, oa + (j - 1) * 13 + 12, none⟩ = some (.int .i64 M.c) := hca 12 (by omega)
  clear hca
  have em0W2 : W2.cell? ⟨u1.heap.size + x2.bs.size, 0, none⟩ = some (.int .i64 v.sl) := cell_of_block ZmW2.out 0 (by simp)
  have fm0W2 := frozen_of_block ZmW2.out 0
  have em1W2 : W2.cell? ⟨u1.heap.size + x2.bs.size, 1, none⟩ = some (.int .i64 v.sh) := cell_of_block ZmW2.out 1 (by simp)
  have fm1W2 := frozen_of_block ZmW2.out 1
  have em2W2 : W2.cell? ⟨u1.heap.size + x2.bs.size, 2, none⟩ = some (.int .i64 v.el) := cell_of_block ZmW2.out 2 (by simp)
  have fm2W2 := frozen_of_block ZmW2.out 2
  have em3W2 : W2.cell? ⟨u1.heap.size + x2.bs.size, 3, none⟩ = some (.int .i64 v.eh) := cell_of_block ZmW2.out 3 (by simp)
  have fm3W2 := frozen_of_block ZmW2.out 3
  have em4W2 : W2.cell? ⟨u1.heap.size + x2.bs.size, 4, none⟩ = some (.int .i64 v.pl) := cell_of_block ZmW2.out 4 (by simp)
  have fm4W2 := frozen_of_block ZmW2.out 4
  have em5W2 : W2.cell? ⟨u1.heap.size + x2.bs.size, 5, none⟩ = some (.int .i64 v.ph) := cell_of_block ZmW2.out 5 (by simp)
  have fm5W2 := frozen_of_block ZmW2.out 5
  have em6W2 : W2.cell? ⟨u1.heap.size + x2.bs.size, 6, none⟩ = some (.int .i64 v.gl) := cell_of_block ZmW2.out 6 (by simp)
  have fm6W2 := frozen_of_block ZmW2.out 6
  have em7W2 : W2.cell? ⟨u1.heap.size + x2.bs.size, 7, none⟩ = some (.int .i64 v.gh) := cell_of_block ZmW2.out 7 (by simp)
  have fm7W2 := frozen_of_block ZmW2.out 7
  have em8W2 : W2.cell? ⟨u1.heap.size + x2.bs.size, 8, none⟩ = some (.int .i64 v.ol) := cell_of_block ZmW2.out 8 (by simp)
  have fm8W2 := frozen_of_block ZmW2.out 8
  have em9W2 : W2.cell? ⟨u1.heap.size + x2.bs.size, 9, none⟩ = some (.int .i64 v.oh) := cell_of_block ZmW2.out 9 (by simp)
  have fm9W2 := frozen_of_block ZmW2.out 9
  have em10W2 : W2.cell? ⟨u1.heap.size + x2.bs.size, 10, none⟩ = some (.int .i64 v.tl) := cell_of_block ZmW2.out 10 (by simp)
  have fm10W2 := frozen_of_block ZmW2.out 10
  have em11W2 : W2.cell? ⟨u1.heap.size + x2.bs.size, 11, none⟩ = some (.int .i64 v.th) := cell_of_block ZmW2.out 11 (by simp)
  have fm11W2 := frozen_of_block ZmW2.out 11
  have em12W2 : W2.cell? ⟨u1.heap.size + x2.bs.size, 12, none⟩ = some (.int .i64 v.c) := cell_of_block ZmW2.out 12 (by simp)
  have fm12W2 := frozen_of_block ZmW2.out 12
  have lmW2 := (Array.getElem?_eq_some_iff.1 ZmW2.out).1
  go_upto_region 12 with (fail)
  obtain ⟨W3, hW3⟩ : ∃ W3, ((((((((((((((W2)).setCell ⟨u1.heap.size + x2.bs.size, 0, none⟩ (.int .i64 M.sl)).setCell ⟨u1.heap.size + x2.bs.size, 1, none⟩ (.int .i64 M.sh)).setCell ⟨u1.heap.size + x2.bs.size, 2, none⟩ (.int .i64 M.el)).setCell ⟨u1.heap.size + x2.bs.size, 3, none⟩ (.int .i64 M.eh)).setCell ⟨u1.heap.size + x2.bs.size, 4, none⟩ (.int .i64 M.pl)).setCell ⟨u1.heap.size + x2.bs.size, 5, none⟩ (.int .i64 M.ph)).setCell ⟨u1.heap.size + x2.bs.size, 6, none⟩ (.int .i64 M.gl)).setCell ⟨u1.heap.size + x2.bs.size, 7, none⟩ (.int .i64 M.gh)).setCell ⟨u1.heap.size + x2.bs.size, 8, none⟩ (.int .i64 M.ol)).setCell ⟨u1.heap.size + x2.bs.size, 9, none⟩ (.int .i64 M.oh)).setCell ⟨u1.heap.size + x2.bs.size, 10, none⟩ (.int .i64 M.tl)).setCell ⟨u1.heap.size + x2.bs.size, 11, none⟩ (.int .i64 M.th)).setCell ⟨u1.heap.size + x2.bs.size, 12, none⟩ (.int .i64 M.c) = W3 := ⟨_, rfl⟩
  have hsW3 : setAll (W2) (u1.heap.size + x2.bs.size) 0 [.int .i64 M.sl, .int .i64 M.sh, .int .i64 M.el, .int .i64 M.eh, .int .i64 M.pl, .int .i64 M.ph, .int .i64 M.gl, .int .i64 M.gh, .int .i64 M.ol, .int .i64 M.oh, .int .i64 M.tl, .int .i64 M.th, .int .i64 M.c] = W3 := hW3
  have hgW3 : W2.grownBy W3 (some (u1.heap.size + x2.bs.size)) := by rw [← hsW3]; exact grownBy_trans (grownBy_of_below (Below.refl _ W2) _) (setAll_grown (u1.heap.size + x2.bs.size) [.int .i64 M.sl, .int .i64 M.sh, .int .i64 M.el, .int .i64 M.eh, .int .i64 M.pl, .int .i64 M.ph, .int .i64 M.gl, .int .i64 M.gh, .int .i64 M.ol, .int .i64 M.oh, .int .i64 M.tl, .int .i64 M.th, .int .i64 M.c] 0 (W2))
  have ZyW3 := Lib.hid ((hgW3.block _ (Array.getElem?_eq_some_iff.1 ZyW2.out).1 (by simp <;> omega)).trans ZyW2.out)
  have ZvW3 := Lib.hid ((hgW3.block _ (Array.getElem?_eq_some_iff.1 ZvW2.out).1 (by simp <;> omega)).trans ZvW2.out)
  have ZlW3 := Lib.hid ((hgW3.block _ (Array.getElem?_eq_some_iff.1 ZlW2.out).1 (by simp <;> omega)).trans ZlW2.out)
  have ZmW3 := Lib.hid (show W3.heap[u1.heap.size + x2.bs.size]? = some (.cells #[.int .i64 M.sl, .int .i64 M.sh, .int .i64 M.el, .int .i64 M.eh, .int .i64 M.pl, .int .i64 M.ph, .int .i64 M.gl, .int .i64 M.gh, .int .i64 M.ol, .int .i64 M.oh, .int .i64 M.tl, .int .i64 M.th, .int .i64 M.c] 38 (0, 0)) by rw [← hsW3]; exact set_all [.int .i64 M.sl, .int .i64 M.sh, .int .i64 M.el, .int .i64 M.eh, .int .i64 M.pl, .int .i64 M.ph, .int .i64 M.gl, .int .i64 M.gh, .int .i64 M.ol, .int .i64 M.oh, .int .i64 M.tl, .int .i64 M.th, .int .i64 M.c] (((Below.refl _ W2).block _ (Array.getElem?_eq_some_iff.1 ZmW2.out).1).trans ZmW2.out) rfl)
  have HBW3 := Lib.hid (HBW2.out.grown hgW3 HBW2.out.size (fun g hg => by cases hg; omega))
  have zsW3 := hgW3.size
  have GBW3 := Lib.hid hgW3; clear hgW3 hsW3
  have HWW3 := Lib.hid hW3; clear hW3
  rw [HWW3.out]
  clear d0 d1 d2 d3 d4 d5 d6 d7 d8 d9 d10 d11 d12 em0W2 em1W2 em2W2 em3W2 em4W2 em5W2 em6W2 em7W2 em8W2 em9W2 em10W2 em11W2 em12W2 fm0W2 fm1W2 fm2W2 fm3W2 fm4W2 fm5W2 fm6W2 fm7W2 fm8W2 fm9W2 fm10W2 fm11W2 fm12W2
  have ey0W3 : W3.cell? ⟨w.heap.size, 0, none⟩ = some (.slice y.aT y.nT y.cT) := cell_of_block ZyW3.out 0 (by simp)
  have ey1W3 : W3.cell? ⟨w.heap.size, 1, none⟩ = some (.slice y.aR y.nR y.cR) := cell_of_block ZyW3.out 1 (by simp)
  have ey2W3 : W3.cell? ⟨w.heap.size, 2, none⟩ = some (.int .i64 y.sl) := cell_of_block ZyW3.out 2 (by simp)
  have ey3W3 : W3.cell? ⟨w.heap.size, 3, none⟩ = some (.int .i64 y.sh) := cell_of_block ZyW3.out 3 (by simp)
  have ey4W3 : W3.cell? ⟨w.heap.size, 4, none⟩ = some (.int .i64 y.gl) := cell_of_block ZyW3.out 4 (by simp)
  have ey5W3 : W3.cell? ⟨w.heap.size, 5, none⟩ = some (.int .i64 y.gh) := cell_of_block ZyW3.out 5 (by simp)
  have ey6W3 : W3.cell? ⟨w.heap.size, 6, none⟩ = some (.int .i64 y.hl) := cell_of_block ZyW3.out 6 (by simp)
  have ey7W3 : W3.cell? ⟨w.heap.size, 7, none⟩ = some (.int .i64 y.hh) := cell_of_block ZyW3.out 7 (by simp)
  have lyW3 := (Array.getElem?_eq_some_iff.1 ZyW3.out).1
  have em0W3 : W3.cell? ⟨u1.heap.size + x2.bs.size, 0, none⟩ = some (.int .i64 M.sl) := cell_of_block ZmW3.out 0 (by simp)
  have em1W3 : W3.cell? ⟨u1.heap.size + x2.bs.size, 1, none⟩ = some (.int .i64 M.sh) := cell_of_block ZmW3.out 1 (by simp)
  have em2W3 : W3.cell? ⟨u1.heap.size + x2.bs.size, 2, none⟩ = some (.int .i64 M.el) := cell_of_block ZmW3.out 2 (by simp)
  have em3W3 : W3.cell? ⟨u1.heap.size + x2.bs.size, 3, none⟩ = some (.int .i64 M.eh) := cell_of_block ZmW3.out 3 (by simp)
  have em4W3 : W3.cell? ⟨u1.heap.size + x2.bs.size, 4, none⟩ = some (.int .i64 M.pl) := cell_of_block ZmW3.out 4 (by simp)
  have em5W3 : W3.cell? ⟨u1.heap.size + x2.bs.size, 5, none⟩ = some (.int .i64 M.ph) := cell_of_block ZmW3.out 5 (by simp)
  have em6W3 : W3.cell? ⟨u1.heap.size + x2.bs.size, 6, none⟩ = some (.int .i64 M.gl) := cell_of_block ZmW3.out 6 (by simp)
  have em7W3 : W3.cell? ⟨u1.heap.size + x2.bs.size, 7, none⟩ = some (.int .i64 M.gh) := cell_of_block ZmW3.out 7 (by simp)
  have em8W3 : W3.cell? ⟨u1.heap.size + x2.bs.size, 8, none⟩ = some (.int .i64 M.ol) := cell_of_block ZmW3.out 8 (by simp)
  have em9W3 : W3.cell? ⟨u1.heap.size + x2.bs.size, 9, none⟩ = some (.int .i64 M.oh) := cell_of_block ZmW3.out 9 (by simp)
  have em10W3 : W3.cell? ⟨u1.heap.size + x2.bs.size, 10, none⟩ = some (.int .i64 M.tl) := cell_of_block ZmW3.out 10 (by simp)
  have em11W3 : W3.cell? ⟨u1.heap.size + x2.bs.size, 11, none⟩ = some (.int .i64 M.th) := cell_of_block ZmW3.out 11 (by simp)
  have em12W3 : W3.cell? ⟨u1.heap.size + x2.bs.size, 12, none⟩ = some (.int .i64 M.c) := cell_of_block ZmW3.out 12 (by simp)
  have lmW3 := (Array.getElem?_eq_some_iff.1 ZmW3.out).1
  have S3 := Lib.hid (S2.out.grown GBW3.out S2.out.size (fun g hg => by cases hg; omega))
  have UW3 := Lib.hid (SBW2.out.grown GBW3.out (by have := SBW2.out.size; omega) (fun g hg => by cases hg; omega))
  have HOC := Lib.hid (HOB.out.kept GBW3.out (.inr (fun h => by have := (HOA.out.lt _ h).2; rw [gw_size] at this; omega)))
  refine wp_region_steps (fun w' => ∃ x, w' = gw W3 x) [([0, 1, 2, 3], 4), ([], 5)] [6, 7, 8, 9, 10] [] (by kernel_rfl) (by kernel_rfl) ?_
  rintro _ ⟨x3, rfl⟩
  refine ⟨⟨_, rfl⟩, ?_⟩
  refine wpSeg_cons ?_
  simp only [pickL, List.getElem?_cons_zero, List.getElem?_cons_succ]
  repeat (go_big_quiet_step (fail))
  refine wpQuiet_nil ?_
  go_wp2_with fail
  refine contQ_now ⟨⟨_, rfl⟩, ?_⟩
  refine wpSeg_cons ?_
  simp only [pickL, List.getElem?_cons_zero, List.getElem?_cons_succ]
  repeat (go_big_quiet_step (fail))
  refine wpQuiet_nil ?_
  go_wp2_with fail
  rename_i KK hKK
  refine (FC'.out _ (S3.out.trans ((below_gw W3 x3).mono S3.out.size))).mono ?_
  rintro e w1 ⟨aB, cB, rfl, hTR, hB3⟩
  obtain ⟨x4, hx4⟩ := gw_of_below (thru hB3 (below_gw W3 x3))
  subst hx4
  have HTR := Lib.hid hTR; clear hB3 hTR
  refine hKK _ _ (contQ_nil ⟨⟨_, rfl⟩, ?_⟩)
  clear hKK KK
  refine wpSeg_nil ?_
  simp only [pickL, List.getElem?_cons_zero, List.getElem?_cons_succ]
  repeat (go_big_quiet_step (fail))
  refine wpQuiet_nil ?_
  refine contN_nil ?_
  have HOD := Lib.hid (own_below HOC.out (below_gw W3 x4))
  obtain ⟨W4, hW4⟩ : ∃ W4, gw W3 x4 = W4 := ⟨_, rfl⟩
  have hbW4 : Below W3.heap.size W3 W4 := by rw [← hW4]; exact below_gw W3 x4
  have ZyW4 := Lib.hid ((hbW4.block _ (Array.getElem?_eq_some_iff.1 ZyW3.out).1).trans ZyW3.out)
  have ZvW4 := Lib.hid ((hbW4.block _ (Array.getElem?_eq_some_iff.1 ZvW3.out).1).trans ZvW3.out)
  have ZlW4 := Lib.hid ((hbW4.block _ (Array.getElem?_eq_some_iff.1 ZlW3.out).1).trans ZlW3.out)
  have ZmW4 := Lib.hid ((hbW4.block _ (Array.getElem?_eq_some_iff.1 ZmW3.out).1).trans ZmW3.out)
  have HBW4 := Lib.hid (thru hbW4 HBW3.out)
  have SBW4 := Lib.hid hbW4; clear hbW4
  have HWW4 := Lib.hid hW4; clear hW4
  rw [HWW4.out]
  clear ey0W3 ey1W3 ey2W3 ey3W3 ey4W3 ey5W3 ey6W3 ey7W3 em0W3 em1W3 em2W3 em3W3 em4W3 em5W3 em6W3 em7W3 em8W3 em9W3 em10W3 em11W3 em12W3
  have S4 := Lib.hid (S3.out.trans (SBW4.out.mono S3.out.size))
  have HOE := HOD.out
  have HTE := HTR.out
  rw [HWW4.out] at HOE HTE
  have HOF := Lib.hid HOE; have HTF := Lib.hid HTE; clear HOE HTE
  have zuW4 := (thru SBW4.out UW3.out : Below u1.heap.size u1 W4).size
  obtain ⟨j0, jh, jy0, jy1, jy2⟩ := info_parts infoVat
  have JI := Lib.hid jh; have Y0 := Lib.hid jy0; have Y1 := Lib.hid jy1; have Y2 := Lib.hid jy2
  clear jh jy0 jy1 jy2
  go_wp2_with (at_builtin; refine wpList_append_src (by rfl) _ _ 40 rfl u1.heap.size 38 j0 (.agg #[.int .i64 0, .int .i64 0, .int .i64 0, .int .i64 0, .int .i64 0, .int .i64 0, .int .i64 0, .int .i64 0, .int .i64 0, .int .i64 0, .int .i64 0, .int .i64 0, .int .i64 0]) 13 104 Try.underlying40 JI.out Y0.out Y1.out Y2.out rfl (by decide) _ j (y.outs v F G j) rfl HOF.out aB (k - j) cB _ rfl (tupsV_len _ _ _) (tups_news HTF.out) (tupsV_one _ _ _) (by unfold maxLen; omega) (by omega) (by omega) ?_; intro v9 w9 hown9 hgrow9)
  rw [OD.out, show j + (k - j) = k by omega] at hown9
  have z9 := hgrow9.size
  have S9 := Lib.hid (S4.out.grown hgrow9 S4.out.size (fun g hg => by have := (HOF.out.lt g hg).1; omega))
  have HB9 := Lib.hid (HBW4.out.grown hgrow9 HBW4.out.size (fun g hg => by have := (HOF.out.lt g hg).1; omega))
  have U9 := Lib.hid ((thru SBW4.out UW3.out : Below u1.heap.size u1 W4).grown hgrow9 (by omega) (fun g hg => (HOF.out.lt g hg).1))
  have Zyw9 := Lib.hid ((hgrow9.block (w.heap.size) (Array.getElem?_eq_some_iff.1 ZyW4.out).1 (by have := row_low HOF.out (B := w.heap.size) (by omega); first | exact this | exact Ne.symm this)).trans ZyW4.out)
  have Zvw9 := Lib.hid ((hgrow9.block (w.heap.size + 1) (Array.getElem?_eq_some_iff.1 ZvW4.out).1 (by have := row_low HOF.out (B := w.heap.size + 1) (by omega); first | exact this | exact Ne.symm this)).trans ZvW4.out)
  have Zlw9 := Lib.hid ((hgrow9.block (w.heap.size + 1 + 1) (Array.getElem?_eq_some_iff.1 ZlW4.out).1 (by have := row_low HOF.out (B := w.heap.size + 1 + 1) (by omega); first | exact this | exact Ne.symm this)).trans ZlW4.out)
  obtain ⟨a9, c9, rfl, hT9⟩ := tups_of_own hown9
  have SS := Lib.hid (sameVats_t a9 a1 k c9 c1 _ w9 (by omega) hT9 (HT1.out.below U9.out))
  have HT9 := Lib.hid (HT1.out.below U9.out)
  clear hown9 hgrow9 hT9
  go_wp2_with fail
  refine (Calls.grown (SS.out)).mono ?_
  rintro e w1 ⟨rfl, z1, rfl⟩
  have kp : 0 < k := by omega
  go_upto_region 16 with (fail)
  obtain ⟨W5, hW5⟩ : ∃ W5, gw w9 z1 = W5 := ⟨_, rfl⟩
  have hbW5 : Below w9.heap.size w9 W5 := by rw [← hW5]; exact below_gw w9 z1
  have ZyW5 := Lib.hid ((hbW5.block _ (Array.getElem?_eq_some_iff.1 Zyw9.out).1).trans Zyw9.out)
  have ZvW5 := Lib.hid ((hbW5.block _ (Array.getElem?_eq_some_iff.1 Zvw9.out).1).trans Zvw9.out)
  have ZlW5 := Lib.hid ((hbW5.block _ (Array.getElem?_eq_some_iff.1 Zlw9.out).1).trans Zlw9.out)
  have HBW5 := Lib.hid (thru hbW5 HB9.out)
  have SBW5 := Lib.hid hbW5; clear hbW5
  have HWW5 := Lib.hid hW5; clear hW5
  rw [HWW5.out]
  have S5 := Lib.hid (S9.out.trans (SBW5.out.mono S9.out.size))
  have ey0W5 : W5.cell? ⟨w.heap.size, 0, none⟩ = some (.slice y.aT y.nT y.cT) := cell_of_block ZyW5.out 0 (by simp)
  have ey1W5 : W5.cell? ⟨w.heap.size, 1, none⟩ = some (.slice y.aR y.nR y.cR) := cell_of_block ZyW5.out 1 (by simp)
  have ey2W5 : W5.cell? ⟨w.heap.size, 2, none⟩ = some (.int .i64 y.sl) := cell_of_block ZyW5.out 2 (by simp)
  have ey3W5 : W5.cell? ⟨w.heap.size, 3, none⟩ = some (.int .i64 y.sh) := cell_of_block ZyW5.out 3 (by simp)
  have ey4W5 : W5.cell? ⟨w.heap.size, 4, none⟩ = some (.int .i64 y.gl) := cell_of_block ZyW5.out 4 (by simp)
  have ey5W5 : W5.cell? ⟨w.heap.size, 5, none⟩ = some (.int .i64 y.gh) := cell_of_block ZyW5.out 5 (by simp)
  have ey6W5 : W5.cell? ⟨w.heap.size, 6, none⟩ = some (.int .i64 y.hl) := cell_of_block ZyW5.out 6 (by simp)
  have ey7W5 : W5.cell? ⟨w.heap.size, 7, none⟩ = some (.int .i64 y.hh) := cell_of_block ZyW5.out 7 (by simp)
  have lyW5 := (Array.getElem?_eq_some_iff.1 ZyW5.out).1
  have ev0W5 : W5.cell? ⟨w.heap.size + 1, 0, none⟩ = some (.int .i64 v.sl) := cell_of_block ZvW5.out 0 (by simp)
  have ev1W5 : W5.cell? ⟨w.heap.size + 1, 1, none⟩ = some (.int .i64 v.sh) := cell_of_block ZvW5.out 1 (by simp)
  have ev2W5 : W5.cell? ⟨w.heap.size + 1, 2, none⟩ = some (.int .i64 v.el) := cell_of_block ZvW5.out 2 (by simp)
  have ev3W5 : W5.cell? ⟨w.heap.size + 1, 3, none⟩ = some (.int .i64 v.eh) := cell_of_block ZvW5.out 3 (by simp)
  have ev4W5 : W5.cell? ⟨w.heap.size + 1, 4, none⟩ = some (.int .i64 v.pl) := cell_of_block ZvW5.out 4 (by simp)
  have ev5W5 : W5.cell? ⟨w.heap.size + 1, 5, none⟩ = some (.int .i64 v.ph) := cell_of_block ZvW5.out 5 (by simp)
  have ev6W5 : W5.cell? ⟨w.heap.size + 1, 6, none⟩ = some (.int .i64 v.gl) := cell_of_block ZvW5.out 6 (by simp)
  have ev7W5 : W5.cell? ⟨w.heap.size + 1, 7, none⟩ = some (.int .i64 v.gh) := cell_of_block ZvW5.out 7 (by simp)
  have ev8W5 : W5.cell? ⟨w.heap.size + 1, 8, none⟩ = some (.int .i64 v.ol) := cell_of_block ZvW5.out 8 (by simp)
  have ev9W5 : W5.cell? ⟨w.heap.size + 1, 9, none⟩ = some (.int .i64 v.oh) := cell_of_block ZvW5.out 9 (by simp)
  have ev10W5 : W5.cell? ⟨w.heap.size + 1, 10, none⟩ = some (.int .i64 v.tl) := cell_of_block ZvW5.out 10 (by simp)
  have ev11W5 : W5.cell? ⟨w.heap.size + 1, 11, none⟩ = some (.int .i64 v.th) := cell_of_block ZvW5.out 11 (by simp)
  have ev12W5 : W5.cell? ⟨w.heap.size + 1, 12, none⟩ = some (.int .i64 v.c) := cell_of_block ZvW5.out 12 (by simp)
  have lvW5 := (Array.getElem?_eq_some_iff.1 ZvW5.out).1
  obtain ⟨bc, oc, ec, lc, hcc⟩ := (HSW.out.below S5.out).resolve_left (by omega)
  cases ec
  obtain ⟨q0, q1⟩ := hcc 0 kp
  simp only [Nat.zero_mul, Nat.add_zero] at q0 q1
  clear hcc
  have HO := fun W (hb : Below W1.heap.size W1 W) => Hour_any y v (F 0) (G 0) W (HIW.out.below hb) hf
  obtain ⟨h1, h2⟩ := hour_first E0.out kp
  simp only [h1, h2] at HO
  clear h1 h2
  obtain ⟨H, hH⟩ : ∃ H, y.vs v F G 1 = H := ⟨_, rfl⟩
  simp only [hH] at HO
  obtain ⟨f, hf0⟩ : ∃ f, F 0 = f := ⟨_, rfl⟩
  obtain ⟨g, hg0⟩ : ∃ g, G 0 = g := ⟨_, rfl⟩
  rw [hf0] at q0
  rw [hg0] at q1
  simp only [hf0, hg0] at HO
  clear hf0 hg0
  unfold Yst.val Vat.val at HO
  have HO' := Lib.hid HO; have HHV := Lib.hid hH; clear HO hH
  refine wp_region_box1 [true, true, true, true, true, true, true, true, true, false, false, true] 9 10 #[.int .i64 0, .int .i64 0, .int .i64 0, .int .i64 0, .int .i64 0, .int .i64 0, .int .i64 0, .int .i64 0, .int .i64 0, .int .i64 0, .int .i64 0, .int .i64 0, .int .i64 0] #[.int .i64 H.sl, .int .i64 H.sh, .int .i64 H.el, .int .i64 H.eh, .int .i64 H.pl, .int .i64 H.ph, .int .i64 H.gl, .int .i64 H.gh, .int .i64 H.ol, .int .i64 H.oh, .int .i64 H.tl, .int .i64 H.th, .int .i64 H.c] (by kernel_rfl) rfl rfl rfl (by kernel_rfl) rfl (by kernel_rfl) infoVat2 rfl rfl (by simp [Value.oneCell']) ?_
  apply Exists.intro
  refine ⟨fun S hS hx => ?_, ?_, ?_⟩
  · obtain ⟨x0, hx0⟩ := hx
    haveI : Nonempty (GrewS W5 S) := ⟨⟨x0, hx0⟩⟩
    simp only [pickM]
    repeat (go_big_quiet_step ((go_at_call 34; with_reducible exact Calls.gwS hS (HO'.out _ (S5.out.trans ((below_gw W5 _).mono S5.out.size))))))
    exact wpQuiet_nil rfl
  · rfl
  · intro B10 w10 hBw hblk hb10
    have HK := Lib.hid hblk; clear hblk
    have SBw10 := Lib.hid (hb10)
    have Zyw10 := Lib.hid ((SBw10.out.block _ (Array.getElem?_eq_some_iff.1 ZyW5.out).1).trans ZyW5.out)
    have Zvw10 := Lib.hid ((SBw10.out.block _ (Array.getElem?_eq_some_iff.1 ZvW5.out).1).trans ZvW5.out)
    have Zlw10 := Lib.hid ((SBw10.out.block _ (Array.getElem?_eq_some_iff.1 ZlW5.out).1).trans ZlW5.out)
    have HBw10 := Lib.hid (thru SBw10.out HBW5.out)
    have Sw10 := Lib.hid (S5.out.trans (SBw10.out.mono S5.out.size))
    clear hb10 q0 q1 ey0W5 ey1W5 ey2W5 ey3W5 ey4W5 ey5W5 ey6W5 ey7W5 ev0W5 ev1W5 ev2W5 ev3W5 ev4W5 ev5W5 ev6W5 ev7W5 ev8W5 ev9W5 ev10W5 ev11W5 ev12W5
    go_upto_region 17 with (fail)
    simp only [Act.put, List.setIfInBounds_toArray, List.set_cons_succ, List.set_cons_zero]
    have eh0w10 : w10.cell? ⟨B10, 0, none⟩ = some (.int .i64 H.sl) := cell_of_block HK.out 0 (by simp)
    have eh1w10 : w10.cell? ⟨B10, 1, none⟩ = some (.int .i64 H.sh) := cell_of_block HK.out 1 (by simp)
    have eh2w10 : w10.cell? ⟨B10, 2, none⟩ = some (.int .i64 H.el) := cell_of_block HK.out 2 (by simp)
    have eh3w10 : w10.cell? ⟨B10, 3, none⟩ = some (.int .i64 H.eh) := cell_of_block HK.out 3 (by simp)
    have eh4w10 : w10.cell? ⟨B10, 4, none⟩ = some (.int .i64 H.pl) := cell_of_block HK.out 4 (by simp)
    have eh5w10 : w10.cell? ⟨B10, 5, none⟩ = some (.int .i64 H.ph) := cell_of_block HK.out 5 (by simp)
    have eh6w10 : w10.cell? ⟨B10, 6, none⟩ = some (.int .i64 H.gl) := cell_of_block HK.out 6 (by simp)
    have eh7w10 : w10.cell? ⟨B10, 7, none⟩ = some (.int .i64 H.gh) := cell_of_block HK.out 7 (by simp)
    have eh8w10 : w10.cell? ⟨B10, 8, none⟩ = some (.int .i64 H.ol) := cell_of_block HK.out 8 (by simp)
    have eh9w10 : w10.cell? ⟨B10, 9, none⟩ = some (.int .i64 H.oh) := cell_of_block HK.out 9 (by simp)
    have eh10w10 : w10.cell? ⟨B10, 10, none⟩ = some (.int .i64 H.tl) := cell_of_block HK.out 10 (by simp)
    have eh11w10 : w10.cell? ⟨B10, 11, none⟩ = some (.int .i64 H.th) := cell_of_block HK.out 11 (by simp)
    have eh12w10 : w10.cell? ⟨B10, 12, none⟩ = some (.int .i64 H.c) := cell_of_block HK.out 12 (by simp)
    have lhw10 := (Array.getElem?_eq_some_iff.1 HK.out).1
    obtain ⟨bn, on, en, lbn, hcn⟩ := (HT9.out.below (thru SBw10.out (SBW5.out))).resolve_left (by omega)
    cases en
    replace hcn : ∀ q, q < 13 → w10.cell? ⟨bn, on + 0 * 13 + q, none⟩ = some (.int .i64 (H.num q)) := by rw [← show y.vs v F G (0 + 1) = H from HHV.out]; exact hcn 0 kp
    have d0 : w10.cell? ⟨bn, on + 0 * 13 + 0, none⟩ = some (.int .i64 H.sl) := hcn 0 (by omega)
    have d1 : w10.cell? ⟨bn, on + 0 * 13 + 1, none⟩ = some (.int .i64 H.sh) := hcn 1 (by omega)
    have d2 : w10.cell? ⟨bn, on + 0 * 13 + 2, none⟩ = some (.int .i64 H.el) := hcn 2 (by omega)
    have d3 : w10.cell? ⟨bn, on + 0 * 13 + 3, none⟩ = some (.int .i64 H.eh) := hcn 3 (by omega)
    have d4 : w10.cell? ⟨bn, on + 0 * 13 + 4, none⟩ = some (.int .i64 H.pl) := hcn 4 (by omega)
    have d5 : w10.cell? ⟨bn, on + 0 * 13 + 5, none⟩ = some (.int .i64 H.ph) := hcn 5 (by omega)
    have d6 : w10.cell? ⟨bn, on + 0 * 13 + 6, none⟩ = some (.int .i64 H.gl) := hcn 6 (by omega)
    have d7 : w10.cell? ⟨bn, on + 0 * 13 + 7, none⟩ = some (.int .i64 H.gh) := hcn 7 (by omega)
    have d8 : w10.cell? ⟨bn, on + 0 * 13 + 8, none⟩ = some (.int .i64 H.ol) := hcn 8 (by omega)
    have d9 : w10.cell? ⟨bn, on + 0 * 13 + 9, none⟩ = some (.int .i64 H.oh) := hcn 9 (by omega)
    have d10 : w10.cell? ⟨bn, on + 0 * 13 + 10, none⟩ = some (.int .i64 H.tl) := hcn 10 (by omega)
    have d11 : w10.cell? ⟨bn, on + 0 * 13 + 11, none⟩ = some (.int .i64 H.th) := hcn 11 (by omega)
    have d12 : w10.cell? ⟨bn, on + 0 * 13 + 12, none⟩ = some (.int .i64 H.c) := hcn 12 (by omega)
    simp only [Nat.zero_mul, Nat.add_zero] at d0 d1 d2 d3 d4 d5 d6 d7 d8 d9 d10 d11 d12
    clear hcn
    refine wp_region_gw (by kernel_rfl) (by kernel_rfl) ?_
    repeat (go_big_quiet_step (fail))
    refine wpQuiet_nil ?_
    rintro _ ⟨z40, rfl⟩
    go_upto_region 19 with (fail)
    obtain ⟨W12, hW12⟩ : ∃ W12, gw w10 z40 = W12 := ⟨_, rfl⟩
    have hbW12 : Below w10.heap.size w10 W12 := by rw [← hW12]; exact below_gw w10 z40
    have ZyW12 := Lib.hid ((hbW12.block _ (Array.getElem?_eq_some_iff.1 Zyw10.out).1).trans Zyw10.out)
    have ZvW12 := Lib.hid ((hbW12.block _ (Array.getElem?_eq_some_iff.1 Zvw10.out).1).trans Zvw10.out)
    have ZlW12 := Lib.hid ((hbW12.block _ (Array.getElem?_eq_some_iff.1 Zlw10.out).1).trans Zlw10.out)
    have ZhW12 := Lib.hid ((hbW12.block _ (Array.getElem?_eq_some_iff.1 HK.out).1).trans HK.out)
    have HBW12 := Lib.hid (thru hbW12 HBw10.out)
    have SBW12 := Lib.hid hbW12; clear hbW12
    have HWW12 := Lib.hid hW12; clear hW12
    rw [HWW12.out]
    clear d0 d1 d2 d3 d4 d5 d6 d7 d8 d9 d10 d11 d12 eh0w10 eh1w10 eh2w10 eh3w10 eh4w10 eh5w10 eh6w10 eh7w10 eh8w10 eh9w10 eh10w10 eh11w10 eh12w10
    have S12 := Lib.hid (Sw10.out.trans (SBW12.out.mono Sw10.out.size))
    have ey0W12 : W12.cell? ⟨w.heap.size, 0, none⟩ = some (.slice y.aT y.nT y.cT) := cell_of_block ZyW12.out 0 (by simp)
    have ey1W12 : W12.cell? ⟨w.heap.size, 1, none⟩ = some (.slice y.aR y.nR y.cR) := cell_of_block ZyW12.out 1 (by simp)
    have ey2W12 : W12.cell? ⟨w.heap.size, 2, none⟩ = some (.int .i64 y.sl) := cell_of_block ZyW12.out 2 (by simp)
    have ey3W12 : W12.cell? ⟨w.heap.size, 3, none⟩ = some (.int .i64 y.sh) := cell_of_block ZyW12.out 3 (by simp)
    have ey4W12 : W12.cell? ⟨w.heap.size, 4, none⟩ = some (.int .i64 y.gl) := cell_of_block ZyW12.out 4 (by simp)
    have ey5W12 : W12.cell? ⟨w.heap.size, 5, none⟩ = some (.int .i64 y.gh) := cell_of_block ZyW12.out 5 (by simp)
    have ey6W12 : W12.cell? ⟨w.heap.size, 6, none⟩ = some (.int .i64 y.hl) := cell_of_block ZyW12.out 6 (by simp)
    have ey7W12 : W12.cell? ⟨w.heap.size, 7, none⟩ = some (.int .i64 y.hh) := cell_of_block ZyW12.out 7 (by simp)
    have lyW12 := (Array.getElem?_eq_some_iff.1 ZyW12.out).1
    have ev0W12 : W12.cell? ⟨w.heap.size + 1, 0, none⟩ = some (.int .i64 v.sl) := cell_of_block ZvW12.out 0 (by simp)
    have ev1W12 : W12.cell? ⟨w.heap.size + 1, 1, none⟩ = some (.int .i64 v.sh) := cell_of_block ZvW12.out 1 (by simp)
    have ev2W12 : W12.cell? ⟨w.heap.size + 1, 2, none⟩ = some (.int .i64 v.el) := cell_of_block ZvW12.out 2 (by simp)
    have ev3W12 : W12.cell? ⟨w.heap.size + 1, 3, none⟩ = some (.int .i64 v.eh) := cell_of_block ZvW12.out 3 (by simp)
    have ev4W12 : W12.cell? ⟨w.heap.size + 1, 4, none⟩ = some (.int .i64 v.pl) := cell_of_block ZvW12.out 4 (by simp)
    have ev5W12 : W12.cell? ⟨w.heap.size + 1, 5, none⟩ = some (.int .i64 v.ph) := cell_of_block ZvW12.out 5 (by simp)
    have ev6W12 : W12.cell? ⟨w.heap.size + 1, 6, none⟩ = some (.int .i64 v.gl) := cell_of_block ZvW12.out 6 (by simp)
    have ev7W12 : W12.cell? ⟨w.heap.size + 1, 7, none⟩ = some (.int .i64 v.gh) := cell_of_block ZvW12.out 7 (by simp)
    have ev8W12 : W12.cell? ⟨w.heap.size + 1, 8, none⟩ = some (.int .i64 v.ol) := cell_of_block ZvW12.out 8 (by simp)
    have ev9W12 : W12.cell? ⟨w.heap.size + 1, 9, none⟩ = some (.int .i64 v.oh) := cell_of_block ZvW12.out 9 (by simp)
    have ev10W12 : W12.cell? ⟨w.heap.size + 1, 10, none⟩ = some (.int .i64 v.tl) := cell_of_block ZvW12.out 10 (by simp)
    have ev11W12 : W12.cell? ⟨w.heap.size + 1, 11, none⟩ = some (.int .i64 v.th) := cell_of_block ZvW12.out 11 (by simp)
    have ev12W12 : W12.cell? ⟨w.heap.size + 1, 12, none⟩ = some (.int .i64 v.c) := cell_of_block ZvW12.out 12 (by simp)
    have lvW12 := (Array.getElem?_eq_some_iff.1 ZvW12.out).1
    have el0W12 : W12.cell? ⟨w.heap.size + 1 + 1, 0, none⟩ = some (.int .i64 ll) := cell_of_block ZlW12.out 0 (by simp)
    have el1W12 : W12.cell? ⟨w.heap.size + 1 + 1, 1, none⟩ = some (.int .i64 lh) := cell_of_block ZlW12.out 1 (by simp)
    have llW12 := (Array.getElem?_eq_some_iff.1 ZlW12.out).1
    go_wp2_with fail
    refine (Calls.grown (FJ'.out _ (S12.out))).mono ?_
    rintro e w1 ⟨rfl, z41, rfl⟩
    go_upto_region 20 with (fail)
    obtain ⟨W13, hW13⟩ : ∃ W13, gw W12 z41 = W13 := ⟨_, rfl⟩
    have hbW13 : Below W12.heap.size W12 W13 := by rw [← hW13]; exact below_gw W12 z41
    have ZyW13 := Lib.hid ((hbW13.block _ (Array.getElem?_eq_some_iff.1 ZyW12.out).1).trans ZyW12.out)
    have ZvW13 := Lib.hid ((hbW13.block _ (Array.getElem?_eq_some_iff.1 ZvW12.out).1).trans ZvW12.out)
    have ZlW13 := Lib.hid ((hbW13.block _ (Array.getElem?_eq_some_iff.1 ZlW12.out).1).trans ZlW12.out)
    have ZhW13 := Lib.hid ((hbW13.block _ (Array.getElem?_eq_some_iff.1 ZhW12.out).1).trans ZhW12.out)
    have HBW13 := Lib.hid (thru hbW13 HBW12.out)
    have SBW13 := Lib.hid hbW13; clear hbW13
    have HWW13 := Lib.hid hW13; clear hW13
    rw [HWW13.out]
    clear ey0W12 ey1W12 ey2W12 ey3W12 ey4W12 ey5W12 ey6W12 ey7W12 ev0W12 ev1W12 ev2W12 ev3W12 ev4W12 ev5W12 ev6W12 ev7W12 ev8W12 ev9W12 ev10W12 ev11W12 ev12W12 el0W12 el1W12
    have S13 := Lib.hid (S12.out.trans (SBW13.out.mono S12.out.size))
    have HL := Lib.hid (HT9.out.below (thru SBW13.out (thru SBW12.out (thru SBw10.out (SBW5.out)))))
    go_wp2_with fail
    go_loopw [172] (fun i wr => ∃ t : Nat, t ≤ k ∧ i = .int .i64 t ∧ Hid (∀ s, s < t → inB' y v F G ll lh s = true) ∧ ∃ x, wr = gw W13 x) (fun i _ => k - (intOf i).toNat)
    case atStart => exact ⟨0, Nat.zero_le _, rfl, Lib.hid (fun s hs => absurd hs (Nat.not_lt_zero s)), ⟨#[], W13.drawn⟩, by simp [gw]⟩
    case round =>
      obtain ⟨t, ht, rfl, HP, x, rfl⟩ := hrel
      by_cases hlt : t < k
      rotate_left
      · obtain rfl : t = k := by omega
        obtain ⟨rfl, rfl⟩ := HN.out HP.out
        go_wp2_with fail
        refine (Calls.gw_of (alive_any _)).mono ?_
        rintro e w1 ⟨rfl, z42, rfl⟩
        go_wp2_with fail
        go_ret
        exact ⟨rfl, HBW13.out.gw z42⟩
      obtain ⟨bm, om, em, lbm, hcm⟩ := HL.out.resolve_left (by omega)
      cases em
      replace hcm := hcm t hlt
      obtain ⟨Z, hZ⟩ : ∃ Z, y.vs v F G (t + 1) = Z := ⟨_, rfl⟩
      simp only [hZ] at hcm
      have d0 : W13.cell? ⟨bn, on + t * 13, none⟩ = some (.int .i64 Z.sl) := hcm 0 (by omega)
      have d1 : W13.cell? ⟨bn, on + t * 13 + 1, none⟩ = some (.int .i64 Z.sh) := hcm 1 (by omega)
      have d2 : W13.cell? ⟨bn, on + t * 13 + 2, none⟩ = some (.int .i64 Z.el) := hcm 2 (by omega)
      have d3 : W13.cell? ⟨bn, on + t * 13 + 3, none⟩ = some (.int .i64 Z.eh) := hcm 3 (by omega)
      have d4 : W13.cell? ⟨bn, on + t * 13 + 4, none⟩ = some (.int .i64 Z.pl) := hcm 4 (by omega)
      have d5 : W13.cell? ⟨bn, on + t * 13 + 5, none⟩ = some (.int .i64 Z.ph) := hcm 5 (by omega)
      have d6 : W13.cell? ⟨bn, on + t * 13 + 6, none⟩ = some (.int .i64 Z.gl) := hcm 6 (by omega)
      have d7 : W13.cell? ⟨bn, on + t * 13 + 7, none⟩ = some (.int .i64 Z.gh) := hcm 7 (by omega)
      have d8 : W13.cell? ⟨bn, on + t * 13 + 8, none⟩ = some (.int .i64 Z.ol) := hcm 8 (by omega)
      have d9 : W13.cell? ⟨bn, on + t * 13 + 9, none⟩ = some (.int .i64 Z.oh) := hcm 9 (by omega)
      have d10 : W13.cell? ⟨bn, on + t * 13 + 10, none⟩ = some (.int .i64 Z.tl) := hcm 10 (by omega)
      have d11 : W13.cell? ⟨bn, on + t * 13 + 11, none⟩ = some (.int .i64 Z.th) := hcm 11 (by omega)
      have d12 : W13.cell? ⟨bn, on + t * 13 + 12, none⟩ = some (.int .i64 Z.c) := hcm 12 (by omega)
      clear hcm
      have HZ := Lib.hid hZ; clear hZ
      go_upto_region 23 with (fail)
      obtain ⟨W14, hW14⟩ : ∃ W14, ((gw W13 x)).alloc (.cells #[.int .i64 Z.sl, .int .i64 Z.sh, .int .i64 Z.el, .int .i64 Z.eh, .int .i64 Z.pl, .int .i64 Z.ph, .int .i64 Z.gl, .int .i64 Z.gh, .int .i64 Z.ol, .int .i64 Z.oh, .int .i64 Z.tl, .int .i64 Z.th, .int .i64 Z.c] 38) = W14 := ⟨_, rfl⟩
      have hbW14 : Below W13.heap.size W13 W14 := by rw [← hW14]; exact (below_gw W13 x).alloc (by simp [gw_size]) _
      have ZyW14 := Lib.hid ((hbW14.block _ (Array.getElem?_eq_some_iff.1 ZyW13.out).1).trans ZyW13.out)
      have ZvW14 := Lib.hid ((hbW14.block _ (Array.getElem?_eq_some_iff.1 ZvW13.out).1).trans ZvW13.out)
      have ZlW14 := Lib.hid ((hbW14.block _ (Array.getElem?_eq_some_iff.1 ZlW13.out).1).trans ZlW13.out)
      have ZhW14 := Lib.hid ((hbW14.block _ (Array.getElem?_eq_some_iff.1 ZhW13.out).1).trans ZhW13.out)
      have zxW14 : W14.heap[W13.heap.size + x.bs.size]? = some (.cells #[.int .i64 Z.sl, .int .i64 Z.sh, .int .i64 Z.el, .int .i64 Z.eh, .int .i64 Z.pl, .int .i64 Z.ph, .int .i64 Z.gl, .int .i64 Z.gh, .int .i64 Z.ol, .int .i64 Z.oh, .int .i64 Z.tl, .int .i64 Z.th, .int .i64 Z.c] 38 (0, 0)) := by rw [← hW14]; exact alloc_at (by simp [gw_size])
      have ZxW14 := Lib.hid zxW14; clear zxW14
      have HBW14 := Lib.hid (thru hbW14 HBW13.out)
      have SBW14 := Lib.hid hbW14; clear hbW14
      have HWW14 := Lib.hid hW14; clear hW14
      rw [HWW14.out]
      clear d0 d1 d2 d3 d4 d5 d6 d7 d8 d9 d10 d11 d12
      have S14 := Lib.hid (S13.out.trans (SBW14.out.mono S13.out.size))
      have ex0W14 : W14.cell? ⟨W13.heap.size + x.bs.size, 0, none⟩ = some (.int .i64 Z.sl) := cell_of_block ZxW14.out 0 (by simp)
      have ex1W14 : W14.cell? ⟨W13.heap.size + x.bs.size, 1, none⟩ = some (.int .i64 Z.sh) := cell_of_block ZxW14.out 1 (by simp)
      have ex2W14 : W14.cell? ⟨W13.heap.size + x.bs.size, 2, none⟩ = some (.int .i64 Z.el) := cell_of_block ZxW14.out 2 (by simp)
      have ex3W14 : W14.cell? ⟨W13.heap.size + x.bs.size, 3, none⟩ = some (.int .i64 Z.eh) := cell_of_block ZxW14.out 3 (by simp)
      have ex4W14 : W14.cell? ⟨W13.heap.size + x.bs.size, 4, none⟩ = some (.int .i64 Z.pl) := cell_of_block ZxW14.out 4 (by simp)
      have ex5W14 : W14.cell? ⟨W13.heap.size + x.bs.size, 5, none⟩ = some (.int .i64 Z.ph) := cell_of_block ZxW14.out 5 (by simp)
      have ex6W14 : W14.cell? ⟨W13.heap.size + x.bs.size, 6, none⟩ = some (.int .i64 Z.gl) := cell_of_block ZxW14.out 6 (by simp)
      have ex7W14 : W14.cell? ⟨W13.heap.size + x.bs.size, 7, none⟩ = some (.int .i64 Z.gh) := cell_of_block ZxW14.out 7 (by simp)
      have ex8W14 : W14.cell? ⟨W13.heap.size + x.bs.size, 8, none⟩ = some (.int .i64 Z.ol) := cell_of_block ZxW14.out 8 (by simp)
      have ex9W14 : W14.cell? ⟨W13.heap.size + x.bs.size, 9, none⟩ = some (.int .i64 Z.oh) := cell_of_block ZxW14.out 9 (by simp)
      have ex10W14 : W14.cell? ⟨W13.heap.size + x.bs.size, 10, none⟩ = some (.int .i64 Z.tl) := cell_of_block ZxW14.out 10 (by simp)
      have ex11W14 : W14.cell? ⟨W13.heap.size + x.bs.size, 11, none⟩ = some (.int .i64 Z.th) := cell_of_block ZxW14.out 11 (by simp)
      have ex12W14 : W14.cell? ⟨W13.heap.size + x.bs.size, 12, none⟩ = some (.int .i64 Z.c) := cell_of_block ZxW14.out 12 (by simp)
      have lxW14 := (Array.getElem?_eq_some_iff.1 ZxW14.out).1
      have el0W14 : W14.cell? ⟨w.heap.size + 1 + 1, 0, none⟩ = some (.int .i64 ll) := cell_of_block ZlW14.out 0 (by simp)
      have el1W14 : W14.cell? ⟨w.heap.size + 1 + 1, 1, none⟩ = some (.int .i64 lh) := cell_of_block ZlW14.out 1 (by simp)
      have llW14 := (Array.getElem?_eq_some_iff.1 ZlW14.out).1
      by_cases binl : Z.tl < ll
      · obtain ⟨e1, e2⟩ := HH.out t hlt HP.out (first_bad (.inl (by rw [HZ.out]; omega)))
        subst e1 e2
        go_wp2_with fail
        refine (Calls.grown (alive_any _)).mono ?_
        rintro e w1 ⟨rfl, z42, rfl⟩
        go_wp2_with fail
        go_ret
        exact ⟨rfl, HBW14.out.gw z42⟩
      by_cases binr : lh < Z.th
      · obtain ⟨e1, e2⟩ := HH.out t hlt HP.out (first_bad (.inr (by rw [HZ.out]; omega)))
        subst e1 e2
        go_wp2_with fail
        refine (Calls.grown (alive_any _)).mono ?_
        rintro e w1 ⟨rfl, z42, rfl⟩
        go_wp2_with fail
        go_ret
        exact ⟨rfl, HBW14.out.gw z42⟩
      have HPN := Lib.hid (all_succ (P := fun i => inB' y v F G ll lh i = true) HP.out (first_good (by rw [HZ.out]; omega) (by rw [HZ.out]; omega)))
      obtain ⟨x9, hx9⟩ := gw_of_below SBW14.out
      have HX9 := Lib.hid hx9; clear hx9
      go_wp2_with fail
      go_roundw
      case rel => exact ⟨t + 1, by omega, by go_num, HPN, x9, HX9.out⟩
      case measure => simp [intOf]; omega
end Go.Proofs.Ytecbacbecopbeaa
