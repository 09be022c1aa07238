/- Contracts of the reference's strong, draw. No conditions beyond each theorem's own. -/
import Derived.Test.YtnmldophadanbaaGi
set_option linter.unusedVariables false
set_option linter.unusedSimpArgs false
set_option linter.unusedSectionVars false
set_option linter.constructorNameAsVariable false
namespace Go.Proofs.Ytnmldophadanbaa
open Go.RowKit

attribute [local go_sem] gw_cell gw_frozen gw_size

set_option maxHeartbeats 1000000 in
theorem rstrong_pos (lo hi v : Int) (w : World) (h0 : 0 ≤ lo) (h1 : lo ≤ 10000000000000) (h2 : 0 ≤ hi) (h3 : hi ≤ 10000000000000) (h4 : 1 ≤ v) (h5 : v ≤ 10000000000000) :
    Calls Try.prog 66 #[.agg #[.int .i64 lo, .int .i64 hi], .int .i64 v] w fun e w' => e = .returned (.agg #[.int .i64 (lo * 10000 / v), .int .i64 (upI (hi * 10000) v)]) ∧ Below w.heap.size w w' := by
  have h6 : (v == 0) = false := by simp; omega
  go_enter Try.func66, Try.ntmps66
  go_wp2
  refine wp_region_gw_tail 11 (by kernel_rfl) (by kernel_rfl) ?_
  simp only [List.take_succ_cons, List.take_zero]
  repeat (go_big_quiet_step (((go_at_call 63; exact Calls.gw_of_same ((rup_any _ _ _ (by omega) (by omega) (by omega) (by omega)))))))
  refine wpQuiet_nil ?_
  rintro _ ⟨x, rfl⟩
  simp only [List.drop_succ_cons, List.drop_zero]
  go_wp2
  refine bodyPost_ret (v := .agg #[.int .i64 (lo * 10000 / v), .int .i64 (upI (hi * 10000) v)]) (by simp [results, Try.results66, go_sem]) rfl ⟨rfl, ?_⟩
  exact ((((((Below.refl _ w).alloc (Nat.le_refl _) _).alloc (by simp) _).gw x).setCell (by simp) _).setCell (by simp) _)

set_option maxHeartbeats 400000 in
theorem rstrong_zero (lo hi : Int) (w : World) :
    Calls Try.prog 66 #[.agg #[.int .i64 lo, .int .i64 hi], .int .i64 0] w fun e w' => e = .returned (.agg #[.int .i64 0, .int .i64 0]) ∧ Below w.heap.size w w' := by
  go_enter Try.func66, Try.ntmps66
  go_wp2
  refine bodyPost_ret (v := .agg #[.int .i64 0, .int .i64 0]) (by simp [results, Try.results66, go_sem]) rfl ⟨rfl, ?_⟩
  exact (((Below.refl _ w).alloc (Nat.le_refl _) _).alloc (by simp) _)

attribute [local go_sem] field_lo field_hi
attribute [local go_sem ↓] run_minZ run_maxZ run_minZ3

/-- the boxes of draw: the curve, the pot, two results, a span -/
structure DBx (W : World) (B : Nat) (aL aV : Option Addr) (n cL cV : Nat) (v lo hi oL oH : Int) (S : Nat) : Prop where
  c0 : W.cell? ⟨B, 0, none⟩ = some (.slice aL n cL)
  c1 : W.cell? ⟨B, 1, none⟩ = some (.slice aV n cV)
  p0 : W.cell? ⟨B + 1, 0, none⟩ = some (.int .i64 v)
  p1 : W.cell? ⟨B + 1, 1, none⟩ = some (.int .i64 lo)
  p2 : W.cell? ⟨B + 1, 2, none⟩ = some (.int .i64 hi)
  s0 : W.cell? ⟨S, 0, none⟩ = some (.int .i64 oL)
  s1 : W.cell? ⟨S, 1, none⟩ = some (.int .i64 oH)
  sz : B + 4 ≤ S ∧ S < W.heap.size

set_option maxRecDepth 100000 in
set_option maxHeartbeats 8000000 in
theorem rdraw_ok (aL aV : Option Addr) (n cL cV : Nat) (L A B : Nat → Int) (v lo hi d : Int) (w : World) (h : inB d 1 1073741824 = true) (g : Good n L A B) (hL : IntsAt w aL n L) (hV : SpansAt w aV n A B)
    (hd : d ≤ v) (p0 : 0 ≤ lo) (p1 : lo ≤ hi) (p2 : hi ≤ v) (p3 : v ≤ 1073741824)
    (oL oH vh um mo st wk th ls u3 hg : Int) (HoL : Hid (oL = lo * 10000 / v)) (HoH : Hid (oH = upI (hi * 10000) v)) (Hvh : Hid (vh = vapHi L B n oH)) (Hum : Hid (um = upI (d * vh) 10000)) (Hmo : Hid (mo = min hi um))
    (Hst : Hid (st = max 0 (lo - mo))) (Hwk : Hid (wk = min oL (if v - d = 0 then 0 else st * 10000 / (v - d)))) (Hth : Hid (th = vapLo L A n wk)) (Hls : Hid (ls = max (lo - (v - d)) (d * th / 10000)))
    (Hu3 : Hid (u3 = upI (hi * (v - d)) v)) (Hhg : Hid (hg = min (hi - ls) (min (v - d) u3))) :
    Calls Try.prog 57 #[.agg #[.slice aL n cL, .slice aV n cV], .agg #[.int .i64 v, .int .i64 lo, .int .i64 hi], .int .i64 d] w fun e w' =>
      e = .returned (.tuple #[.agg #[.int .i64 d, .int .i64 ls, .int .i64 mo], .agg #[.int .i64 (v - d), .int .i64 st, .int .i64 hg]]) ∧ Below w.heap.size w w' := by
  have hd1 := inB_t.1 h
  clear h
  have q0 : 0 ≤ lo * 10000 := by omega
  have q1 : 0 ≤ hi * 10000 := by omega
  have r0 : 0 ≤ oL ∧ oL ≤ 10000 := by
    rw [HoL.out]
    exact ⟨Int.ediv_nonneg (by omega) (by omega), by have := Int.ediv_lt_of_lt_mul (show 0 < v by omega) (show lo * 10000 < 10001 * v by omega); omega⟩
  have r1 : 0 ≤ oH ∧ oH ≤ 10000 := by
    rw [HoH.out]; exact ⟨upI_nonneg q1 (by omega), upI_le (by omega) (by omega)⟩
  have r2 : 0 ≤ vh ∧ vh ≤ 10000 := by rw [Hvh.out]; exact g.vapHi_range r1.1 r1.2
  have G := Lib.hid g; clear g
  obtain ⟨W1, hW1⟩ : ∃ W1, (((w.alloc (.cells #[.slice aL n cL, .slice aV n cV] 25)).alloc (.cells #[.int .i64 v, .int .i64 lo, .int .i64 hi] 29)).alloc (.cells #[.int .i64 0, .int .i64 0, .int .i64 0] 41)).alloc (.cells #[.int .i64 0, .int .i64 0, .int .i64 0] 29) = W1 := ⟨_, rfl⟩
  obtain ⟨z1, z2, z3, z4, zs, low1⟩ : W1.heap[w.heap.size]? = some (.cells #[.slice aL n cL, .slice aV n cV] 25 (0, 0)) ∧ W1.heap[w.heap.size + 1]? = some (.cells #[.int .i64 v, .int .i64 lo, .int .i64 hi] 29 (0, 0)) ∧
      W1.heap[w.heap.size + 2]? = some (.cells #[.int .i64 0, .int .i64 0, .int .i64 0] 41 (0, 0)) ∧ W1.heap[w.heap.size + 3]? = some (.cells #[.int .i64 0, .int .i64 0, .int .i64 0] 29 (0, 0)) ∧ W1.heap.size = w.heap.size + 4 ∧ Below w.heap.size w W1 := by
    obtain ⟨y0, y1, y2, y3, y4, _⟩ := five_blocks w (.cells #[.slice aL n cL, .slice aV n cV] 25) (.cells #[.int .i64 v, .int .i64 lo, .int .i64 hi] 29) (.cells #[.int .i64 0, .int .i64 0, .int .i64 0] 41) (.cells #[.int .i64 0, .int .i64 0, .int .i64 0] 29) (.cells #[] 3)
    have hz : W1.heap.size = w.heap.size + 4 := by rw [← hW1]; simp
    have back : ∀ k, k < w.heap.size + 4 → (W1.alloc (.cells #[] 3)).heap[k]? = W1.heap[k]? := fun k hk => Below.heap_alloc _ _ _ (by omega)
    rw [hW1] at y1 y2 y3 y4
    exact ⟨(back _ (by omega)).symm.trans y1, (back _ (by omega)).symm.trans y2, (back _ (by omega)).symm.trans y3, (back _ (by omega)).symm.trans y4, hz, by rw [← hW1]; exact (((below_alloc _ _).alloc (by simp) _).alloc (by simp; omega) _).alloc (by simp; omega) _⟩
  have lv : W1.cell? ⟨w.heap.size + 1, 0, none⟩ = some (.int .i64 v) := cell_of_block z2 0 (by simp)
  have ll : W1.cell? ⟨w.heap.size + 1, 1, none⟩ = some (.int .i64 lo) := cell_of_block z2 1 (by simp)
  have lh : W1.cell? ⟨w.heap.size + 1, 2, none⟩ = some (.int .i64 hi) := cell_of_block z2 2 (by simp)
  have hz1 : w.heap.size + 1 < W1.heap.size := by omega
  have SP := Lib.hid (show Calls Try.prog 66 #[.agg #[.int .i64 lo, .int .i64 hi], .int .i64 v] W1 fun e w' => e = .returned (.agg #[.int .i64 oL, .int .i64 oH]) ∧ Below W1.heap.size W1 w' by
    rw [HoL.out, HoH.out]; exact rstrong_pos _ _ _ _ (by omega) (by omega) (by omega) (by omega) (by omega) (by omega))
  have HW1 := Lib.hid hW1
  have Z1 := Lib.hid z1
  have Z2 := Lib.hid z2
  have Z3 := Lib.hid z3
  have Z4 := Lib.hid z4
  have ZS := Lib.hid zs
  have LOW1 := Lib.hid low1
  clear hW1 z1 z2 z3 z4 zs low1
  go_enter Try.func57, Try.ntmps57
  go_upto_region 1 with (fail)
  rw [HW1.out]
  go_wp2_with fail
  refine SP.out.mono ?_
  clear SP
  rintro e w1 ⟨rfl, hb1⟩
  obtain ⟨W2, hW2⟩ : ∃ W2, w1.alloc (.cells #[.int .i64 oL, .int .i64 oH] 27) = W2 := ⟨_, rfl⟩
  have b12 : Below W1.heap.size W1 W2 := by rw [← hW2]; exact thru (below_alloc _ _) hb1
  have kS : W2.heap[w1.heap.size]? = some (.cells #[.int .i64 oL, .int .i64 oH] 27 (0, 0)) := by rw [← hW2]; exact World.alloc_heap_new w1 _
  have bl : ∀ k, k < W1.heap.size → W2.heap[k]? = W1.heap[k]? := b12.block
  have zs := ZS.out
  have k1 := (bl _ (by omega)).trans Z1.out
  have k2 := (bl _ (by omega)).trans Z2.out
  have K3 := Lib.hid ((bl _ (by omega)).trans Z3.out)
  have K4 := Lib.hid ((bl _ (by omega)).trans Z4.out)
  have HL := Lib.hid ((hL.below LOW1.out).below b12)
  have HV := Lib.hid ((hV.below LOW1.out).below b12)
  have LOW2 := Lib.hid (thru b12 LOW1.out)
  have hs1 := hb1.size
  have hs2 := (Array.getElem?_eq_some_iff.1 kS).1
  clear bl hL hV hb1 b12 lv ll lh
  have c0 : W2.cell? ⟨w.heap.size, 0, none⟩ = some (.slice aL n cL) := cell_of_block k1 0 (by simp)
  have c1 : W2.cell? ⟨w.heap.size, 1, none⟩ = some (.slice aV n cV) := cell_of_block k1 1 (by simp)
  have lv : W2.cell? ⟨w.heap.size + 1, 0, none⟩ = some (.int .i64 v) := cell_of_block k2 0 (by simp)
  have ll : W2.cell? ⟨w.heap.size + 1, 1, none⟩ = some (.int .i64 lo) := cell_of_block k2 1 (by simp)
  have lh : W2.cell? ⟨w.heap.size + 1, 2, none⟩ = some (.int .i64 hi) := cell_of_block k2 2 (by simp)
  have s0 : W2.cell? ⟨w1.heap.size, 0, none⟩ = some (.int .i64 oL) := cell_of_block kS 0 (by simp)
  have s1 : W2.cell? ⟨w1.heap.size, 1, none⟩ = some (.int .i64 oH) := cell_of_block kS 1 (by simp)
  have l0 : w.heap.size < W2.heap.size := by omega
  have l1 : w.heap.size + 1 < W2.heap.size := by omega
  have HW2 := Lib.hid hW2
  clear k1 k2 kS hW2 zs
  go_upto_region 2 with (fail)
  rw [HW2.out]
  clear HW2
  generalize w1.heap.size = S at *
  obtain ⟨vl, Hvl⟩ : ∃ vl, Hid (vl = vapLo L A n oL) := ⟨_, Lib.hid rfl⟩
  have m0 : 0 ≤ d * vh := Int.mul_nonneg (by omega) r2.1
  have m1 : d * vh ≤ d * 10000 := Int.mul_le_mul_of_nonneg_left r2.2 (by omega)
  have V1 := Lib.hid (fun x => show Calls Try.prog 56 #[.agg #[.slice aL n cL, .slice aV n cV], .agg #[.int .i64 oL, .int .i64 oH]] (gw W2 x) (fun e w' => e = .returned (.agg #[.int .i64 vl, .int .i64 vh]) ∧ ∃ x', w' = gw W2 x') by
    rw [Hvl.out, Hvh.out]; exact Calls.gw_of (rvapour_any aL aV n cL cV oL oH L A B _ G.out (HL.out.below (below_gw W2 x)) (HV.out.below (below_gw W2 x)) r0.1 r0.2 r1.1 r1.2))
  have U1 := Lib.hid (fun x => show Calls Try.prog 63 #[.int .i64 (d * vh), .int .i64 10000] (gw W2 x) (fun e w' => e = .returned (.int .i64 um) ∧ ∃ x', w' = gw W2 x') by
    rw [Hum.out]; exact Calls.gw_of_same (rup_any _ _ _ m0 (by omega) (by omega) (by omega)))
  have ru : 0 ≤ um ∧ um ≤ d := by rw [Hum.out]; exact ⟨upI_nonneg m0 (by omega), upI_le (by omega) (by omega)⟩
  have e1 : minZ hi um = mo := by rw [Hmo.out, minZ_eq]
  have rm : 0 ≤ mo ∧ mo ≤ hi ∧ mo ≤ d := by rw [Hmo.out]; omega
  have e2 : maxZ 0 (lo - mo) = st := by rw [Hst.out, maxZ_eq]
  have rs : 0 ≤ st ∧ st ≤ lo := by rw [Hst.out]; omega
  go_wp2_with fail
  refine wp_region_gw (by kernel_rfl) (by kernel_rfl) ?_
  repeat (go_big_quiet_step ((first | (go_at_call 56; exact V1.out _) | (go_at_call 63; exact U1.out _))))
  refine wpQuiet_nil ?_
  rintro _ ⟨x1, rfl⟩
  clear e1 V1 U1 Hvl
  go_wp2_with fail
  clear e2
  obtain ⟨ws, Hws⟩ : ∃ ws, Hid (ws = if v - d = 0 then 0 else st * 10000 / (v - d)) := ⟨_, Lib.hid rfl⟩
  obtain ⟨wz, V2⟩ : ∃ wz, Hid (∀ x, Calls Try.prog 66 #[.agg #[.int .i64 st, .int .i64 st], .int .i64 (v - d)] (gw W2 x) (fun e w' => e = .returned (.agg #[.int .i64 ws, .int .i64 wz]) ∧ ∃ x', w' = gw W2 x')) := by
    by_cases hz : v - d = 0
    · refine ⟨0, Lib.hid fun x => ?_⟩
      rw [Hws.out, if_pos hz, hz]; exact Calls.gw_of (rstrong_zero st st _)
    · refine ⟨upI (st * 10000) (v - d), Lib.hid fun x => ?_⟩
      rw [Hws.out, if_neg hz]; exact Calls.gw_of (rstrong_pos st st _ _ (by omega) (by omega) (by omega) (by omega) (by omega) (by omega))
  have rw0 : 0 ≤ ws := by
    rw [Hws.out]; split
    · omega
    · exact Int.ediv_nonneg (by omega) (by omega)
  have e3 : minZ oL ws = wk := by rw [Hwk.out, minZ_eq, Hws.out]
  have rk : 0 ≤ wk ∧ wk ≤ 10000 := by rw [← e3, minZ_eq]; omega
  have rt : 0 ≤ th ∧ th ≤ 10000 := by rw [Hth.out]; exact G.out.vapLo_range rk.1 rk.2
  refine wp_region_gw2 (by kernel_rfl) (by kernel_rfl) ?_
  repeat (go_big_quiet_step ((go_at_call 66; exact V2.out _)))
  refine wpQuiet_nil ?_
  rintro _ ⟨x2, rfl⟩
  clear e3 V2
  go_wp2_with fail
  obtain ⟨tz, Htz⟩ : ∃ tz, Hid (tz = vapHi L B n wk) := ⟨_, Lib.hid rfl⟩
  have V3 := Lib.hid (fun x => show Calls Try.prog 56 #[.agg #[.slice aL n cL, .slice aV n cV], .agg #[.int .i64 wk, .int .i64 wk]] (gw W2 x) (fun e w' => e = .returned (.agg #[.int .i64 th, .int .i64 tz]) ∧ ∃ x', w' = gw W2 x') by
    rw [Hth.out, Htz.out]; exact Calls.gw_of (rvapour_any aL aV n cL cV wk wk L A B _ G.out (HL.out.below (below_gw W2 x)) (HV.out.below (below_gw W2 x)) rk.1 rk.2 rk.1 rk.2))
  have t0 : 0 ≤ d * th := Int.mul_nonneg (by omega) rt.1
  have t1 : d * th ≤ d * 10000 := Int.mul_le_mul_of_nonneg_left rt.2 (by omega)
  have e4 : maxZ (lo - (v - d)) (d * th / 10000) = ls := by rw [Hls.out, maxZ_eq]
  have rl : 0 ≤ ls ∧ ls ≤ 1073741824 := by rw [Hls.out]; omega
  refine wp_region_gw2 (by kernel_rfl) (by kernel_rfl) ?_
  repeat (go_big_quiet_step ((go_at_call 56; exact V3.out _)))
  refine wpQuiet_nil ?_
  rintro _ ⟨x3, rfl⟩
  clear e4 V3
  have y0 : 0 ≤ hi * (v - d) := Int.mul_nonneg (by omega) (by omega)
  have y1 : hi * (v - d) ≤ 1073741824 * 1073741824 := Int.mul_le_mul (by omega) (by omega) (by omega) (by omega)
  have U3 := Lib.hid (fun x => show Calls Try.prog 63 #[.int .i64 (hi * (v - d)), .int .i64 v] (gw W2 x) (fun e w' => e = .returned (.int .i64 u3) ∧ ∃ x', w' = gw W2 x') by
    rw [Hu3.out]; exact Calls.gw_of_same (rup_any _ _ _ y0 (by omega) (by omega) (by omega)))
  have e5 : minZ (minZ (hi - ls) (v - d)) u3 = hg := by rw [Hhg.out, minZ_eq, minZ_eq]; omega
  go_wp2_with fail
  refine wp_region_gw2 (by kernel_rfl) (by kernel_rfl) ?_
  repeat (go_big_quiet_step ((go_at_call 63; exact U3.out _)))
  refine wpQuiet_nil ?_
  rintro _ ⟨x4, rfl⟩
  clear e5 U3
  have hR3 : (gw W2 x4).heap[w.heap.size + 2]? = some (.cells #[.int .i64 0, .int .i64 0, .int .i64 0] 41 (0, 0)) := (gw_block W2 x4 _ (Array.getElem?_eq_some_iff.1 K3.out).1).trans K3.out
  have hR4 : (gw W2 x4).heap[w.heap.size + 3]? = some (.cells #[.int .i64 0, .int .i64 0, .int .i64 0] 29 (0, 0)) := (gw_block W2 x4 _ (Array.getElem?_eq_some_iff.1 K4.out).1).trans K4.out
  have HB := Lib.hid (LOW2.out.gw x4)
  generalize gw W2 x4 = W5 at *
  have r0 : W5.cell? ⟨w.heap.size + 1 + 1, 0, none⟩ = some (.int .i64 0) := cell_of_block hR3 0 (by simp)
  have r1 : W5.cell? ⟨w.heap.size + 1 + 1, 1, none⟩ = some (.int .i64 0) := cell_of_block hR3 1 (by simp)
  have r2 : W5.cell? ⟨w.heap.size + 1 + 1, 2, none⟩ = some (.int .i64 0) := cell_of_block hR3 2 (by simp)
  have r3 : W5.frozen? ⟨w.heap.size + 1 + 1, 0, none⟩ = false := frozen_of_block hR3 0
  have r4 : W5.frozen? ⟨w.heap.size + 1 + 1, 1, none⟩ = false := frozen_of_block hR3 1
  have r5 : W5.frozen? ⟨w.heap.size + 1 + 1, 2, none⟩ = false := frozen_of_block hR3 2
  have t0 : W5.cell? ⟨w.heap.size + 1 + 1 + 1, 0, none⟩ = some (.int .i64 0) := cell_of_block hR4 0 (by simp)
  have t1 : W5.cell? ⟨w.heap.size + 1 + 1 + 1, 1, none⟩ = some (.int .i64 0) := cell_of_block hR4 1 (by simp)
  have t2 : W5.cell? ⟨w.heap.size + 1 + 1 + 1, 2, none⟩ = some (.int .i64 0) := cell_of_block hR4 2 (by simp)
  have t3 : W5.frozen? ⟨w.heap.size + 1 + 1 + 1, 0, none⟩ = false := frozen_of_block hR4 0
  have t4 : W5.frozen? ⟨w.heap.size + 1 + 1 + 1, 1, none⟩ = false := frozen_of_block hR4 1
  have t5 : W5.frozen? ⟨w.heap.size + 1 + 1 + 1, 2, none⟩ = false := frozen_of_block hR4 2
  clear hR3 hR4 c0 c1 lv ll lh s0 s1
  go_wp2_with fail
  refine bodyPost_ret (v := .tuple #[.agg #[.int .i64 d, .int .i64 ls, .int .i64 mo], .agg #[.int .i64 (v - d), .int .i64 st, .int .i64 hg]]) (by simp [results, Try.results57, go_sem, r0, r1, r2, t0, t1, t2]) rfl ⟨rfl, ?_⟩
  exact (((((HB.out.setCell (by simp; omega) _).setCell (by simp; omega) _).setCell (by simp; omega) _).setCell (by simp; omega) _).setCell (by simp; omega) _).setCell (by simp; omega) _
end Go.Proofs.Ytnmldophadanbaa
