/- Contract of (*still).draw. No conditions beyond each theorem's own. -/
import Derived.Test.YtnmldophadanbaaWg
import Derived.Test.YtnmldophadanbaaKf
import Derived.Deep.RegionHeld3
import Derived.Deep.DeepCutAuto
set_option linter.unusedVariables false
set_option linter.unusedSimpArgs false
set_option linter.unusedSectionVars false
set_option linter.constructorNameAsVariable false
namespace Go.Proofs.Ytnmldophadanbaa
open Go.RowKit

theorem field_lo (x y : Int) (w : World) : Sem.run Try.prog (Instr.field 27 (.agg #[.int .i64 x, .int .i64 y]) 0) w = .ok (.int .i64 x) w := by kernel_rfl
theorem field_hi (x y : Int) (w : World) : Sem.run Try.prog (Instr.field 27 (.agg #[.int .i64 x, .int .i64 y]) 1) w = .ok (.int .i64 y) w := by kernel_rfl

theorem StillBox.other {w : World} {bs bc : Nat} {v lo hi : Int} (h : StillBox w bs v lo hi bc) {r : Nat} (hr : r ≠ bs) (k : Nat) (u : Value) : StillBox (w.setCell ⟨r, k, none⟩ u) bs v lo hi bc :=
  (Below.heap_setCell w ⟨r, k, none⟩ u bs (Ne.symm hr)).trans h
theorem grownBy_later {w w' : World} {row : Option Nat} (h : w.grownBy w' row) (k : Nat) (u : Value) : w.grownBy (w'.setCell ⟨w.heap.size, k, none⟩ u) row :=
  ⟨h.os, h.tape, h.output, Nat.le_trans h.size (KeepsWalks.setCell w' _ u).size, fun j hj hr => (Below.heap_setCell w' ⟨w.heap.size, k, none⟩ u j (Nat.ne_of_lt hj)).trans (h.block j hj hr)⟩

attribute [local go_sem] gw_cell gw_frozen gw_size field_lo field_hi
attribute [local go_sem ↓] run_minZ run_maxZ run_minZ3

set_option maxRecDepth 100000 in
set_option maxHeartbeats 1000000 in
theorem draw_range (bs : Nat) (d : Int) (w : World) (h : inB d 1 1073741824 = false) :
    Calls Try.prog 69 #[.pointer (some ⟨bs, 0, none⟩), .int .i64 d] w fun e w' => e = .panicked [{ v := .iface 99 (.agg #[.int .i64 2]), recovered := false }] ∧ Below w.heap.size w w' := by
  have H := Lib.hid h; clear h
  go_enter Try.func69, Try.ntmps69
  go_wp2_with fail
  refine (within_b _ _ _ _ H.out).mono ?_
  rintro e w' ⟨rfl, rfl⟩
  go_wp2_with fail
  refine (need_not _ _).mono ?_
  rintro e w' ⟨rfl, rfl⟩
  go_wp2_with fail
  exact ⟨rfl, rfl, (Below.refl _ w).alloc (Nat.le_refl _) _⟩

set_option maxRecDepth 100000 in
set_option maxHeartbeats 1000000 in
theorem draw_short (bs bc : Nat) (v lo hi d : Int) (w : World) (h : inB d 1 1073741824 = true) (hS : StillBox w bs v lo hi bc) (hd : v < d) :
    Calls Try.prog 69 #[.pointer (some ⟨bs, 0, none⟩), .int .i64 d] w fun e w' => e = .panicked [{ v := .iface 99 (.agg #[.int .i64 10]), recovered := false }] ∧ Below w.heap.size w w' := by
  have H := Lib.hid h; clear h
  have c0 := hS.c0
  have lt := hS.lt
  have hdd : decide (d ≤ v) = false := by simp; omega
  clear hS
  go_enter Try.func69, Try.ntmps69
  go_wp2_with fail
  refine (within_b _ _ _ _ H.out).mono ?_
  rintro e w' ⟨rfl, rfl⟩
  go_wp2_with fail
  refine (need_ok _ _).mono ?_
  rintro e w' ⟨rfl, rfl⟩
  go_wp2_with fail
  refine (need_not _ _).mono ?_
  rintro e w' ⟨rfl, rfl⟩
  go_wp2_with fail
  exact ⟨rfl, rfl, (Below.refl _ w).alloc (Nat.le_refl _) _⟩

set_option maxRecDepth 100000 in
set_option maxHeartbeats 4000000 in
theorem draw_ok (bs bc b off bv offv n cL cV : Nat) (L A B : Nat → Int) (v lo hi d : Int) (w : World) (h : inB d 1 1073741824 = true) (g : Good n L A B)
    (hC : CurveAt w bc b off bv offv n cL cV L A B) (hS : StillBox w bs v lo hi bc) (hd : d ≤ v) (p0 : 0 ≤ lo) (p1 : lo ≤ hi) (p2 : hi ≤ v) (p3 : v ≤ 1073741824)
    (oL oH vh um mo st wk th ls u3 hg : Int) (HoL : Hid (oL = lo * 10000 / v)) (HoH : Hid (oH = upI (hi * 10000) v)) (Hvh : Hid (vh = vapHi L B n oH)) (Hum : Hid (um = upI (d * vh) 10000)) (Hmo : Hid (mo = min hi um))
    (Hst : Hid (st = max 0 (lo - mo))) (Hwk : Hid (wk = min oL (if v - d = 0 then 0 else st * 10000 / (v - d)))) (Hth : Hid (th = vapLo L A n wk)) (Hls : Hid (ls = max (lo - (v - d)) (d * th / 10000)))
    (Hu3 : Hid (u3 = upI (hi * (v - d)) v)) (Hhg : Hid (hg = min (hi - ls) (min (v - d) u3))) :
    Calls Try.prog 69 #[.pointer (some ⟨bs, 0, none⟩), .int .i64 d] w fun e w' => e = .returned (.agg #[.int .i64 d, .int .i64 ls, .int .i64 mo]) ∧ StillBox w' bs (v - d) st hg bc ∧ w.grownBy w' (some bs) := by
  have hd1 := inB_t.1 h
  have H := Lib.hid h; clear h
  have c0 := hS.c0
  have c1 := hS.c1
  have c2 := hS.c2
  have c3 := hS.c3
  have lt := hS.lt
  have HS := Lib.hid hS; clear hS
  have HC := Lib.hid hC; clear hC
  have hdd : decide (d ≤ v) = true := by simp; omega
  have q0 : 0 ≤ lo * 10000 := by omega
  have q1 : 0 ≤ hi * 10000 := by omega
  have r0 : 0 ≤ oL ∧ oL ≤ 10000 := by
    rw [HoL.out]
    exact ⟨Int.ediv_nonneg (by omega) (by omega), by have := Int.ediv_lt_of_lt_mul (show 0 < v by omega) (show lo * 10000 < 10001 * v by omega); omega⟩
  have r1 : 0 ≤ oH ∧ oH ≤ 10000 := by
    rw [HoH.out]; exact ⟨upI_nonneg q1 (by omega), upI_le (by omega) (by omega)⟩
  have r2 : 0 ≤ vh ∧ vh ≤ 10000 := by rw [Hvh.out]; exact g.vapHi_range r1.1 r1.2
  have G := Lib.hid g; clear g
  go_enter Try.func69, Try.ntmps69
  go_upto_region 3 with (first | (go_at_call 50; refine (within_b _ _ _ _ H.out).mono ?_; rintro e w' ⟨rfl, rfl⟩) | (go_at_call 73; refine (need_ok _ _).mono ?_; rintro e w' ⟨rfl, rfl⟩))
  have K0 : (w.alloc (.cells #[.int .i64 0, .int .i64 0, .int .i64 0] 41)).cell? ⟨bs, 0, none⟩ = some (.int .i64 v) := (((Below.refl _ w).alloc (Nat.le_refl _) _).cell (p := ⟨bs, 0, none⟩) lt).trans c0
  have K1 : (w.alloc (.cells #[.int .i64 0, .int .i64 0, .int .i64 0] 41)).cell? ⟨bs, 1, none⟩ = some (.int .i64 lo) := (((Below.refl _ w).alloc (Nat.le_refl _) _).cell (p := ⟨bs, 1, none⟩) lt).trans c1
  have K2 : (w.alloc (.cells #[.int .i64 0, .int .i64 0, .int .i64 0] 41)).cell? ⟨bs, 2, none⟩ = some (.int .i64 hi) := (((Below.refl _ w).alloc (Nat.le_refl _) _).cell (p := ⟨bs, 2, none⟩) lt).trans c2
  have hW : w.heap.size + 1 = (w.alloc (.cells #[.int .i64 0, .int .i64 0, .int .i64 0] 41)).heap.size := by simp
  have hbW : Below w.heap.size w (w.alloc (.cells #[.int .i64 0, .int .i64 0, .int .i64 0] 41)) := (Below.refl _ w).alloc (Nat.le_refl _) _
  have kr : (w.alloc (.cells #[.int .i64 0, .int .i64 0, .int .i64 0] 41)).heap[w.heap.size]? = some (.cells #[.int .i64 0, .int .i64 0, .int .i64 0] 41 (0, 0)) := World.alloc_heap_new w _
  have KR := Lib.hid kr; clear kr
  generalize w.alloc (.cells #[.int .i64 0, .int .i64 0, .int .i64 0] 41) = W at *
  have ltW : bs < W.heap.size := by omega
  have HW := Lib.hid hW; clear hW
  have HbW := Lib.hid hbW; clear hbW
  clear c0 c1 c2 lt
  have ea := World.new_ne W _ K0
  go_cut [5] (fun s5 wx => ∃ B : Nat, s5 = .pointer (some ⟨B, 0, none⟩) ∧ wx.heap[B]? = some (.cells #[.int .i64 oL, .int .i64 oH] 27 (0, 0)) ∧ W.heap.size ≤ B ∧ Below W.heap.size W wx)
  case first =>
    go_region_held3 (fun w' => w'.cell? ⟨bs, 0, none⟩ = some (.int .i64 v) ∧ w'.cell? ⟨bs, 1, none⟩ = some (.int .i64 lo) ∧ w'.cell? ⟨bs, 2, none⟩ = some (.int .i64 hi))
      (first
        | go_keep
        | exact ⟨k0, k1, k2⟩
        | exact ⟨(World.cell?_alloc_lt _ _ _ kl).trans k0, (World.cell?_alloc_lt _ _ _ kl).trans k1, (World.cell?_alloc_lt _ _ _ kl).trans k2⟩
        | exact ⟨(World.cell?_setCell_far _ _ _ _ ea).trans k0, (World.cell?_setCell_far _ _ _ _ ea).trans k1, (World.cell?_setCell_far _ _ _ _ ea).trans k2⟩
        | exact ⟨(World.cell?_setCell_far _ _ _ _ ea).trans ((World.cell?_setCell_far _ _ _ _ ea).trans k0), (World.cell?_setCell_far _ _ _ _ ea).trans ((World.cell?_setCell_far _ _ _ _ ea).trans k1), (World.cell?_setCell_far _ _ _ _ ea).trans ((World.cell?_setCell_far _ _ _ _ ea).trans k2)⟩)
      (first
        | (go_at_call 61; refine (strong_pos _ _ _ ((W.alloc (.cells #[.int .i64 0, .int .i64 0] 27)).drew) (by omega) (by omega) (by omega) (by omega) (by omega) (by omega)).mono ?_; rintro e w1 ⟨rfl, hb1⟩
           have k0 : w1.cell? ⟨bs, 0, none⟩ = some (.int .i64 v) := (hb1.cell (p := ⟨bs, 0, none⟩) (by simp; omega)).trans ((World.cell?_alloc_lt _ _ _ ltW).trans K0)
           have k1 : w1.cell? ⟨bs, 1, none⟩ = some (.int .i64 lo) := (hb1.cell (p := ⟨bs, 1, none⟩) (by simp; omega)).trans ((World.cell?_alloc_lt _ _ _ ltW).trans K1)
           have k2 : w1.cell? ⟨bs, 2, none⟩ = some (.int .i64 hi) := (hb1.cell (p := ⟨bs, 2, none⟩) (by simp; omega)).trans ((World.cell?_alloc_lt _ _ _ ltW).trans K2)
           have kl : bs < w1.heap.size := World.block_lt_of_cell? w1 _ k0
           have n0 : w1.cell? ⟨W.heap.size, 0, none⟩ = some (.int .i64 0) := (hb1.cell (p := ⟨W.heap.size, 0, none⟩) (by simp)).trans (by simp)
           have n1 : w1.cell? ⟨W.heap.size, 1, none⟩ = some (.int .i64 0) := (hb1.cell (p := ⟨W.heap.size, 1, none⟩) (by simp)).trans (by simp)
           have n2 : w1.frozen? ⟨W.heap.size, 0, none⟩ = false := (hb1.frozen (p := ⟨W.heap.size, 0, none⟩) (by simp)).trans (by simp)
           have n3 : w1.frozen? ⟨W.heap.size, 1, none⟩ = false := (hb1.frozen (p := ⟨W.heap.size, 1, none⟩) (by simp)).trans (by simp))
        | (go_at_call 61; refine (strong_pos _ _ _ W.drew (by omega) (by omega) (by omega) (by omega) (by omega) (by omega)).mono ?_; rintro e w1 ⟨rfl, hb1⟩
           have k0 : w1.cell? ⟨bs, 0, none⟩ = some (.int .i64 v) := (hb1.cell (p := ⟨bs, 0, none⟩) ltW).trans (K0)
           have k1 : w1.cell? ⟨bs, 1, none⟩ = some (.int .i64 lo) := (hb1.cell (p := ⟨bs, 1, none⟩) ltW).trans (K1)
           have k2 : w1.cell? ⟨bs, 2, none⟩ = some (.int .i64 hi) := (hb1.cell (p := ⟨bs, 2, none⟩) ltW).trans (K2)
           have kl : bs < w1.heap.size := World.block_lt_of_cell? w1 _ k0))
    all_goals
      go_wp2_with fail
      go_meet
      rw [HoL.out, HoH.out]
      first
        | exact ⟨w1.heap.size, rfl, World.alloc_heap_new w1 _, hb1.size, ((Below.refl _ W).drew.trans hb1).alloc hb1.size _⟩
        | exact ⟨W.heap.size, rfl, block_set 1 _ (block_set 0 _ ((hb1.block W.heap.size (by simp)).trans (World.alloc_heap_new W _))), Nat.le_refl _, ((((Below.refl _ W).alloc (Nat.le_refl _) _).drew.trans (hb1.mono (by simp))).setCell (p := ⟨W.heap.size, 0, none⟩) (Nat.le_refl _) _).setCell (p := ⟨W.heap.size, 1, none⟩) (Nat.le_refl _) _⟩
  case rest =>
    obtain ⟨B', rfl, hbox, hBW, hbx⟩ := hcut
    have hS1 : StillBox wc bs v lo hi bc := HS.out.below (HbW.out.trans (hbx.mono HbW.out.size))
    have hC1 : CurveAt wc bc b off bv offv n cL cV L A B := HC.out.below (HbW.out.trans (hbx.mono HbW.out.size))
    have c0 := hS1.c0
    have c1 := hS1.c1
    have c2 := hS1.c2
    have c3 := hS1.c3
    have lt := hS1.lt
    have b0 : wc.cell? ⟨B', 0, none⟩ = some (.int .i64 oL) := by simp [World.cell?, hbox]
    have b1 : wc.cell? ⟨B', 1, none⟩ = some (.int .i64 oH) := by simp [World.cell?, hbox]
    have ltB : B' < wc.heap.size := (Array.getElem?_eq_some_iff.1 hbox).1
    have hr1 : wc.heap[w.heap.size]? = some (.cells #[.int .i64 0, .int .i64 0, .int .i64 0] 41 (0, 0)) := (hbx.block w.heap.size (by have := HW.out; omega)).trans KR.out
    have KR1 := Lib.hid hr1; clear hr1
    have HS1 := Lib.hid hS1; clear hS1
    have HC1 := Lib.hid hC1; clear hC1
    have Hbx := Lib.hid hbx; clear hbx hbox K0 K1 K2 ea
    obtain ⟨vl, Hvl⟩ : ∃ vl, Hid (vl = vapLo L A n oL) := ⟨_, Lib.hid rfl⟩
    have m0 : 0 ≤ d * vh := Int.mul_nonneg (by omega) r2.1
    have m1 : d * vh ≤ d * 10000 := Int.mul_le_mul_of_nonneg_left r2.2 (by omega)
    have V1 := Lib.hid (fun x => show Calls Try.prog 55 #[.pointer (some ⟨bc, 0, none⟩), .agg #[.int .i64 oL, .int .i64 oH]] (gw wc x) (fun e w' => e = .returned (.agg #[.int .i64 vl, .int .i64 vh]) ∧ ∃ x', w' = gw wc x') by
      rw [Hvl.out, Hvh.out]; exact Calls.gw_of (vapour_any bc b off bv offv n cL cV oL oH L A B _ G.out (HC1.out.gw x) r0.1 r0.2 r1.1 r1.2))
    have U1 := Lib.hid (fun x => show Calls Try.prog 51 #[.int .i64 (d * vh), .int .i64 10000] (gw wc x) (fun e w' => e = .returned (.int .i64 um) ∧ ∃ x', w' = gw wc x') by
      rw [Hum.out]; exact Calls.gw_of_same (up_any _ _ _ m0 (by omega) (by omega) (by omega)))
    have ru : 0 ≤ um ∧ um ≤ d := by rw [Hum.out]; exact ⟨upI_nonneg m0 (by omega), upI_le (by omega) (by omega)⟩
    have e1 : minZ hi um = mo := by rw [Hmo.out, minZ_eq]
    have rm : 0 ≤ mo ∧ mo ≤ hi ∧ mo ≤ d := by rw [Hmo.out]; omega
    have e2 : maxZ 0 (lo - mo) = st := by rw [Hst.out, maxZ_eq]
    have rs : 0 ≤ st ∧ st ≤ lo := by rw [Hst.out]; omega
    go_wp2_with fail
    refine wp_region_gw (by kernel_rfl) (by kernel_rfl) ?_
    repeat (go_big_quiet_step ((first | (go_at_call 55; exact V1.out _) | (go_at_call 51; exact U1.out _))))
    refine wpQuiet_nil ?_
    rintro _ ⟨x1, rfl⟩
    clear e1 V1 U1 Hvl
    go_wp2_with fail
    clear e2
    obtain ⟨ws, Hws⟩ : ∃ ws, Hid (ws = if v - d = 0 then 0 else st * 10000 / (v - d)) := ⟨_, Lib.hid rfl⟩
    obtain ⟨wz, V2⟩ : ∃ wz, Hid (∀ x, Calls Try.prog 61 #[.agg #[.int .i64 st, .int .i64 st], .int .i64 (v - d)] (gw wc x) (fun e w' => e = .returned (.agg #[.int .i64 ws, .int .i64 wz]) ∧ ∃ x', w' = gw wc x')) := by
      by_cases hz : v - d = 0
      · refine ⟨0, Lib.hid fun x => ?_⟩
        rw [Hws.out, if_pos hz, hz]; exact Calls.gw_of (strong_zero st st _)
      · refine ⟨upI (st * 10000) (v - d), Lib.hid fun x => ?_⟩
        rw [Hws.out, if_neg hz]; exact Calls.gw_of (strong_pos st st _ _ (by omega) (by omega) (by omega) (by omega) (by omega) (by omega))
    have rw0 : 0 ≤ ws := by
      rw [Hws.out]; split
      · omega
      · exact Int.ediv_nonneg (by omega) (by omega)
    have e3 : minZ oL ws = wk := by rw [Hwk.out, minZ_eq, Hws.out]
    have rk : 0 ≤ wk ∧ wk ≤ 10000 := by rw [← e3, minZ_eq]; omega
    have rt : 0 ≤ th ∧ th ≤ 10000 := by rw [Hth.out]; exact G.out.vapLo_range rk.1 rk.2
    refine wp_region_gw2 (by kernel_rfl) (by kernel_rfl) ?_
    repeat (go_big_quiet_step ((go_at_call 61; exact V2.out _)))
    refine wpQuiet_nil ?_
    rintro _ ⟨x2, rfl⟩
    clear e3 V2
    go_wp2_with fail
    obtain ⟨tz, Htz⟩ : ∃ tz, Hid (tz = vapHi L B n wk) := ⟨_, Lib.hid rfl⟩
    have V3 : Calls Try.prog 55 #[.pointer (some ⟨bc, 0, none⟩), .agg #[.int .i64 wk, .int .i64 wk]] (gw wc x2) (fun e w' => e = .returned (.agg #[.int .i64 th, .int .i64 tz]) ∧ ∃ x', w' = gw wc x') := by
      rw [Hth.out, Htz.out]; exact Calls.gw_of (vapour_any bc b off bv offv n cL cV wk wk L A B _ G.out (HC1.out.gw x2) rk.1 rk.2 rk.1 rk.2)
    refine V3.mono ?_
    clear V3
    rintro e w1 ⟨rfl, x3, rfl⟩
    have t0 : 0 ≤ d * th := Int.mul_nonneg (by omega) rt.1
    have t1 : d * th ≤ d * 10000 := Int.mul_le_mul_of_nonneg_left rt.2 (by omega)
    have e4 : maxZ (lo - (v - d)) (d * th / 10000) = ls := by rw [Hls.out, maxZ_eq]
    have rl : 0 ≤ ls ∧ ls ≤ 1073741824 := by rw [Hls.out]; omega
    have y0 : 0 ≤ hi * (v - d) := Int.mul_nonneg (by omega) (by omega)
    have y1 : hi * (v - d) ≤ 1073741824 * 1073741824 := Int.mul_le_mul (by omega) (by omega) (by omega) (by omega)
    have U3 := Lib.hid (fun x => show Calls Try.prog 51 #[.int .i64 (hi * (v - d)), .int .i64 v] (gw wc x) (fun e w' => e = .returned (.int .i64 u3) ∧ ∃ x', w' = gw wc x') by
      rw [Hu3.out]; exact Calls.gw_of_same (up_any _ _ _ y0 (by omega) (by omega) (by omega)))
    have e5 : minZ3 (hi - ls) (v - d) u3 = hg := by rw [Hhg.out, minZ3_eq]
    go_wp2_with fail
    clear e4
    refine wp_region_gw2 (by kernel_rfl) (by kernel_rfl) ?_
    repeat (go_big_quiet_step ((go_at_call 51; exact U3.out _)))
    refine wpQuiet_nil ?_
    rintro _ ⟨x4, rfl⟩
    clear e5 U3
    have hS2 : StillBox (gw wc x4) bs v lo hi bc := HS1.out.below (below_gw wc x4)
    have hR2 : (gw wc x4).heap[w.heap.size]? = some (.cells #[.int .i64 0, .int .i64 0, .int .i64 0] 41 (0, 0)) := (gw_block wc x4 _ (Array.getElem?_eq_some_iff.1 KR1.out).1).trans KR1.out
    have hG2 : w.grownBy (gw wc x4) (some bs) := grownBy_of_below (HbW.out.trans ((Hbx.out.gw x4).mono HbW.out.size)) _
    have hne : bs ≠ w.heap.size := Nat.ne_of_lt HS.out.lt
    have f0 := hS2.c0
    have f1 := hS2.c1
    have f2 := hS2.c2
    have g0 := hS2.fr 0
    have g1 := hS2.fr 1
    have g2 := hS2.fr 2
    have k0 : (gw wc x4).cell? ⟨w.heap.size, 0, none⟩ = some (.int .i64 0) := by simp [World.cell?, hR2]
    have k1 : (gw wc x4).cell? ⟨w.heap.size, 1, none⟩ = some (.int .i64 0) := by simp [World.cell?, hR2]
    have k2 : (gw wc x4).cell? ⟨w.heap.size, 2, none⟩ = some (.int .i64 0) := by simp [World.cell?, hR2]
    have l0 : (gw wc x4).frozen? ⟨w.heap.size, 0, none⟩ = false := by simp [World.frozen?, hR2]
    have l1 : (gw wc x4).frozen? ⟨w.heap.size, 1, none⟩ = false := by simp [World.frozen?, hR2]
    have l2 : (gw wc x4).frozen? ⟨w.heap.size, 2, none⟩ = false := by simp [World.frozen?, hR2]
    have HS2 := Lib.hid hS2; clear hS2
    have HR2 := Lib.hid hR2; clear hR2
    have HG2 := Lib.hid hG2; clear hG2
    generalize gw wc x4 = w5 at *
    clear c0 c1 c2 c3 b0 b1 lt ltB
    go_wp2_with fail
    refine bodyPost_ret (v := .agg #[.int .i64 d, .int .i64 ls, .int .i64 mo]) (by simp [results, Try.results69, go_sem, k0, k1, k2, hne, hne.symm]) rfl ⟨rfl, ?_, ?_⟩
    · exact (((HS2.out.set (v - d) st hg).other (Ne.symm hne) 0 _).other (Ne.symm hne) 1 _).other (Ne.symm hne) 2 _
    · exact grownBy_later (grownBy_later (grownBy_later (grownBy_trans (grownBy_trans (grownBy_trans HG2.out (grownBy_set _ bs 0 _)) (grownBy_set _ bs 1 _)) (grownBy_set _ bs 2 _)) 0 _) 1 _) 2 _
end Go.Proofs.Ytnmldophadanbaa
