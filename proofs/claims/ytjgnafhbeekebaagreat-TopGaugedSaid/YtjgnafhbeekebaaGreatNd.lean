/- Contract of TopGauged where all that it is given is valid. No conditions beyond each theorem's own. -/
import Derived.Test.YtjgnafhbeekebaaGreatNc
set_option linter.unusedVariables false
set_option linter.unusedSimpArgs false
set_option linter.unusedSectionVars false
set_option linter.constructorNameAsVariable false
namespace Go.Proofs.YtjgnafhbeekebaaGreat
open Go.RowKit

attribute [local go_sem] gw_cell gw_frozen gw_size
attribute [local go_sem ↓] L1.run_minI L1.run_maxI
theorem infoSp : (Tryz.prog.info? 27).map (fun i => (i.zero, i.size)) = some (some (.agg #[.int .i64 0, .int .i64 0]), 2) := by kernel_rfl
/-- what is known ahead of a day: a true cask within the content of that day -/
structure DayAt (C : L7.Clim) (x : L7.Cont) (k : Nat) (F G : Nat → Int) (m j : Nat) (dd a b : Int) : Prop where
  le : j ≤ m
  day : dd = x.day + j
  ok : L7.Truly (L7.dayC C F G k x j) a b

set_option maxRecDepth 100000 in
set_option maxHeartbeats 64000000 in
theorem gauge_main (t : L1.Tab) (tlo thi : Int) (C : L7.Clim) (x : L7.Cont) (aS : Option Addr) (k cS : Nat) (F G : Nat → Int) (dy : Int) (aB : Option Addr) (n cB : Nat) (U : Nat → Int) (w : World) (hT : t.In w) (hL : t.Lens) (hC : C.In w) (hf : C.Fits) (hk : k ≤ 9223372036854775807) (hS : SpansAt w aS k F G) (hU : NumsAt .u32 w aB (n + 1) U) (hr : ∀ i, i < n + 1 → 0 ≤ U i ∧ U i ≤ 4294967295) (hn2 : n + 1 ≤ 9223372036854775807) (hy : 0 ≤ dy ∧ dy ≤ 255) (h1 : t.nT ≤ 40) (h2 : t.nS ≤ 40) (h3 : C.nA ≤ 10) (h4 : k ≤ 70) (h : gaugeB t tlo thi C x k F G = true) :
    Calls Tryz.prog 3 #[.agg #[.slice t.aT t.nT t.cT, .slice t.aS t.nS t.cS, .slice t.H.a t.H.n t.H.c, .slice t.R.a t.R.n t.R.c], .agg #[.int .i64 tlo, .int .i64 thi], .agg #[.int .i64 C.days, .slice C.aA C.nA C.cA, .slice C.aW C.nW C.cW], .agg #[.int .i64 x.day, .int .i64 x.alo, .int .i64 x.ahi, .int .i64 x.wlo, .int .i64 x.whi], .slice aS k cS, .int .u8 dy, .slice aB (n + 1) cB] w fun e w' => e = .returned (.bool true) ∧ Below w.heap.size w w' := by
  obtain ⟨W1, hW1⟩ : ∃ W1, (((w.alloc (.cells #[.slice t.aT t.nT t.cT, .slice t.aS t.nS t.cS, .slice t.H.a t.H.n t.H.c, .slice t.R.a t.R.n t.R.c] 25)).alloc (.cells #[.int .i64 tlo, .int .i64 thi] 27)).alloc (.cells #[.int .i64 C.days, .slice C.aA C.nA C.cA, .slice C.aW C.nW C.cW] 30)).alloc (.cells #[.int .i64 x.day, .int .i64 x.alo, .int .i64 x.ahi, .int .i64 x.wlo, .int .i64 x.whi] 32) = W1 := ⟨_, rfl⟩
  have hBc : Below w.heap.size w W1 := by rw [← hW1]; exact (((below_alloc _ _).alloc (by simp) _).alloc (by simp <;> omega) _).alloc (by simp <;> omega) _
  have zc0 : W1.heap[w.heap.size]? = some (.cells #[.slice t.aT t.nT t.cT, .slice t.aS t.nS t.cS, .slice t.H.a t.H.n t.H.c, .slice t.R.a t.R.n t.R.c] 25 (0, 0)) := by rw [← hW1]; exact alloc_keep (alloc_keep (alloc_keep (alloc_at rfl)))
  have zc1 : W1.heap[w.heap.size + 1]? = some (.cells #[.int .i64 tlo, .int .i64 thi] 27 (0, 0)) := by rw [← hW1]; exact alloc_keep (alloc_keep (alloc_at (by simp)))
  have zc2 : W1.heap[w.heap.size + 1 + 1]? = some (.cells #[.int .i64 C.days, .slice C.aA C.nA C.cA, .slice C.aW C.nW C.cW] 30 (0, 0)) := by rw [← hW1]; exact alloc_keep (alloc_at (by simp <;> omega))
  have zc3 : W1.heap[w.heap.size + 1 + 1 + 1]? = some (.cells #[.int .i64 x.day, .int .i64 x.alo, .int .i64 x.ahi, .int .i64 x.wlo, .int .i64 x.whi] 32 (0, 0)) := by rw [← hW1]; exact alloc_at (by simp <;> omega)
  have c00 : W1.cell? ⟨w.heap.size, 0, none⟩ = some (.slice t.aT t.nT t.cT) := cell_of_block zc0 0 (by simp)
  have c01 : W1.cell? ⟨w.heap.size, 1, none⟩ = some (.slice t.aS t.nS t.cS) := cell_of_block zc0 1 (by simp)
  have c02 : W1.cell? ⟨w.heap.size, 2, none⟩ = some (.slice t.H.a t.H.n t.H.c) := cell_of_block zc0 2 (by simp)
  have c03 : W1.cell? ⟨w.heap.size, 3, none⟩ = some (.slice t.R.a t.R.n t.R.c) := cell_of_block zc0 3 (by simp)
  have c10 : W1.cell? ⟨w.heap.size + 1, 0, none⟩ = some (.int .i64 tlo) := cell_of_block zc1 0 (by simp)
  have c11 : W1.cell? ⟨w.heap.size + 1, 1, none⟩ = some (.int .i64 thi) := cell_of_block zc1 1 (by simp)
  have c20 : W1.cell? ⟨w.heap.size + 1 + 1, 0, none⟩ = some (.int .i64 C.days) := cell_of_block zc2 0 (by simp)
  have c21 : W1.cell? ⟨w.heap.size + 1 + 1, 1, none⟩ = some (.slice C.aA C.nA C.cA) := cell_of_block zc2 1 (by simp)
  have c22 : W1.cell? ⟨w.heap.size + 1 + 1, 2, none⟩ = some (.slice C.aW C.nW C.cW) := cell_of_block zc2 2 (by simp)
  have c30 : W1.cell? ⟨w.heap.size + 1 + 1 + 1, 0, none⟩ = some (.int .i64 x.day) := cell_of_block zc3 0 (by simp)
  have c31 : W1.cell? ⟨w.heap.size + 1 + 1 + 1, 1, none⟩ = some (.int .i64 x.alo) := cell_of_block zc3 1 (by simp)
  have c32 : W1.cell? ⟨w.heap.size + 1 + 1 + 1, 2, none⟩ = some (.int .i64 x.ahi) := cell_of_block zc3 2 (by simp)
  have c33 : W1.cell? ⟨w.heap.size + 1 + 1 + 1, 3, none⟩ = some (.int .i64 x.wlo) := cell_of_block zc3 3 (by simp)
  have c34 : W1.cell? ⟨w.heap.size + 1 + 1 + 1, 4, none⟩ = some (.int .i64 x.whi) := cell_of_block zc3 4 (by simp)
  have lc0 := (Array.getElem?_eq_some_iff.1 zc0).1
  have lc1 := (Array.getElem?_eq_some_iff.1 zc1).1
  have lc2 := (Array.getElem?_eq_some_iff.1 zc2).1
  have lc3 := (Array.getElem?_eq_some_iff.1 zc3).1
  have Zc0 := Lib.hid zc0
  have Zc1 := Lib.hid zc1
  have Zc2 := Lib.hid zc2
  have Zc3 := Lib.hid zc3
  clear zc0 zc1 zc2 zc3
  have HBc := Lib.hid hBc; clear hBc
  have HWc := Lib.hid hW1; clear hW1
  obtain ⟨q1, q2, q3, q4, q5, q6⟩ := gaugeB_t h
  have I1 := Lib.hid (hT.below HBc.out)
  have HC := Lib.hid (hC.below HBc.out)
  have HS := Lib.hid (hS.below HBc.out)
  have HU := Lib.hid (hU.below HBc.out)
  have HR := Lib.hid hr
  have d1 : decide ((t.nT : Int) > 40) = false := by simp; omega
  have e1 : decide ((40 : Int) < (t.nT : Int)) = false := by simp; omega
  have g1 : decide (40 < t.nT) = false := by simp; omega
  have d2 : decide ((t.nS : Int) > 40) = false := by simp; omega
  have e2 : decide ((40 : Int) < (t.nS : Int)) = false := by simp; omega
  have g2 : decide (40 < t.nS) = false := by simp; omega
  have d3 : decide ((C.nA : Int) > 10) = false := by simp; omega
  have e3 : decide ((10 : Int) < (C.nA : Int)) = false := by simp; omega
  have g3 : decide (10 < C.nA) = false := by simp; omega
  have d4 : decide ((k : Int) > 70) = false := by simp; omega
  have e4 : decide ((70 : Int) < (k : Int)) = false := by simp; omega
  have g4 : decide (70 < k) = false := by simp; omega
  have h5b : (((n : Int) + 1) == 0) = false := by simp; omega
  clear h hr hU
  have RT := fun z => L1.rTable_b (b := true) t (gw W1 z) (I1.out.below (below_gw W1 z)) ⟨by omega, by omega⟩ q1
  unfold L1.Tab.val at RT
  replace RT := Lib.hid RT
  have g := L1.Tab.good q1
  have t2 := g.ok.t2
  have t32 := g.ok.t32
  simp only [L1.Tab.tb] at t2 t32
  have RP := fun z => L1.rTemp_b (b := true) t tlo thi (gw W1 z) (I1.out.below (below_gw W1 z)) t2 t32 q2
  unfold L1.Tab.val at RP
  replace RP := Lib.hid RP
  clear g t2 t32
  have RC := fun z => L7.rClimate_b (b := true) C (gw W1 z) (HC.out.below (below_gw W1 z)) hf q3
  replace RC := Lib.hid RC
  have RX := fun z => L7.rContent_b (b := true) x (gw W1 z) q4
  replace RX := Lib.hid RX
  have RS := fun z => L7.rStays_b (b := true) C aS k cS F G (gw W1 z) hf hk (HS.out.below (below_gw W1 z)) q5
  replace RS := Lib.hid RS
  have HT0 := Lib.hid hT
  have HC0 := Lib.hid hC
  have HS0 := Lib.hid hS
  have kp := (L7.staysB_t q5).1.1
  have HGG := Lib.hid (And.intro q3 (And.intro q5 q4))
  obtain ⟨⟨xd0, xd1⟩, ⟨xa0, xa1, xa2⟩, xw0, xw1, xw2⟩ := L7.contB_t q4
  have g := L1.Tab.good q1
  have s2 := g.ok.s2
  have s32 := g.ok.s32
  have t2 := g.ok.t2
  simp only [L1.Tab.tb] at s2 s32 t2
  have ftt := (L1.Tab.fitT_t q2).b
  have GD := Lib.hid (And.intro g (And.intro q1 q2))
  have S0r := g.ok.bS 0 (by simp only [L1.Tab.tb]; omega)
  have S1r := g.ok.bS (t.nS - 1) (by simp only [L1.Tab.tb]; omega)
  have T0r := g.ok.bT 0 (by simp only [L1.Tab.tb]; omega)
  have T1r := g.ok.bT (t.nT - 1) (by simp only [L1.Tab.tb]; omega)
  have fta := (L1.Tab.fitT_t q2).a
  have ftc := (L1.Tab.fitT_t q2).c
  simp only [L1.Tab.tb] at S0r S1r T0r T1r fta ftc
  clear hC hS
  have tr : -500 ≤ tlo ∧ thi ≤ 1000 := by omega
  clear T0r T1r g hT
  rcases HS.out with h0 | ⟨sb, so, rfl, sl, sc⟩
  · omega
  have SC := Lib.hid sc
  have s1 := (sc 0 (by omega)).1
  simp only [Nat.zero_mul, Nat.add_zero] at s1
  clear sc
  rcases HU.out with h0 | ⟨ub, uo, rfl, ul, uc⟩
  · omega
  have UC := Lib.hid uc
  have U1 := uc 0 (by omega)
  have U2 := uc n (by omega)
  rw [Nat.add_zero] at U1
  clear uc
  have R1 := HR.out 0 (by omega)
  have R2 := HR.out n (by omega)
  have ir1 := innerI_range (b := U 0) xa1
  have ir2 := innerI_range (b := U n) xw1
  have ir3 := innerI_range (b := U 0) ftt
  unfold innerI at ir1 ir2 ir3
  have SA := fun z => L7.some_any x.alo x.ahi (U 0) (gw W1 z) (by omega) xa1 (by omega) R1.1 R1.2
  have SB := fun z => L7.some_any x.wlo x.whi (U n) (gw W1 z) (by omega) xw1 (by omega) R2.1 R2.2
  obtain ⟨A0, hA0⟩ : ∃ c, x.alo + U 0 % (x.ahi - x.alo + 1) = c := ⟨_, rfl⟩
  obtain ⟨B0, hB0⟩ : ∃ c, x.wlo + U n % (x.whi - x.wlo + 1) = c := ⟨_, rfl⟩
  obtain ⟨wm, hwm⟩ : ∃ c, tlo + U 0 % (thi - tlo + 1) = c := ⟨_, rfl⟩
  have SW := fun W => L7.some_any tlo thi (U 0) W (by omega) ftt (by omega) R1.1 R1.2
  rw [hA0] at SA ir1
  rw [hB0] at SB ir2
  rw [hwm] at SW ir3
  replace SA := Lib.hid SA
  replace SB := Lib.hid SB
  replace SW := Lib.hid SW
  clear hA0 hB0 hwm R1 R2 HU ftt q1 q2 q3 q4 q5
  generalize U 0 = u0 at U1 SA SW
  generalize U n = un at U2 SB
  obtain ⟨f0, hf0⟩ : ∃ c, F 0 = c := ⟨_, rfl⟩
  rw [hf0] at s1
  have n1 : decide (f0 > x.day) = false := by simp; omega
  have n2 : decide (x.day < f0) = false := by simp; omega
  have F0 := Lib.hid q6
  clear hf0 q6
  have dr : 0 ≤ dy % 201 ∧ dy % 201 ≤ 200 := by omega
  obtain ⟨dr0, dr1⟩ := dr
  go_enter Tryz.func3, Tryz.ntmps3
  go_upto_region 1 with (fail)
  rw [HWc.out]
  refine wp_region_gw (by kernel_rfl) (by kernel_rfl) ?_
  repeat (go_big_quiet_step (first | (go_at_call 4; with_reducible exact Calls.gw_of (RT.out _)) | (go_at_call 5; with_reducible exact Calls.gw_of (RP.out _)) | (go_at_call 6; with_reducible exact Calls.gw_of (RC.out _)) | (go_at_call 7; with_reducible exact Calls.gw_of (RX.out _)) | (go_at_call 8; with_reducible exact Calls.gw_of (RS.out _))))
  refine wpQuiet_nil ?_
  rintro _ ⟨z0, rfl⟩
  clear RT RP RC RX RS n1 n2 s1
  go_upto_region 4 with (fail)
  obtain ⟨day, hday⟩ : ∃ c, min 65536 (x.day + dy % 201) = c := ⟨_, rfl⟩
  rw [hday]
  have dd0 : x.day ≤ day ∧ day ≤ 65536 := by omega
  obtain ⟨dd0, dd1⟩ := dd0
  clear hday dr0 dr1 hy
  refine wp_region_gw2 (by kernel_rfl) (by kernel_rfl) ?_
  repeat (go_big_quiet_step (first | (go_at_call 10; with_reducible exact Calls.gw_of (SA.out _)) | (go_at_call 10; with_reducible exact Calls.gw_of (SB.out _))))
  refine wpQuiet_nil ?_
  rintro _ ⟨z1, rfl⟩
  clear SA SB U2
  obtain ⟨m, hm⟩ : ∃ m, (day - x.day).toNat = m := ⟨_, rfl⟩
  have HM := Lib.hid hm; clear hm
  have T0 := Lib.hid (show L7.Truly x A0 B0 from ⟨ir1.1, ir1.2, ir2.1, ir2.2⟩)
  clear ir1 ir2
  go_wp2_with fail
  go_loopw [16, 17, 18] (fun al wt dv wr => ∃ (j : Nat) (a b dd : Int), al = .int .i64 a ∧ wt = .int .i64 b ∧ dv = .int .i64 dd ∧ Hid (DayAt C x k F G m j dd a b) ∧ ∃ z, wr = gw W1 z) (fun _ _ dv _ => (day - intOf dv).toNat)
  case atStart => exact ⟨0, A0, B0, x.day, rfl, rfl, rfl, Lib.hid ⟨Nat.zero_le _, by simp, T0.out⟩, _, rfl⟩
  case round =>
    obtain ⟨j, a, b, dd, rfl, rfl, rfl, HL, z, rfl⟩ := hrel
    have jd : 0 ≤ dd ∧ dd ≤ day ∧ x.day + j ≤ day := by have := HL.out.day; have := HL.out.le; have := HM.out; omega
    obtain ⟨jd0, jd1, jd2⟩ := jd
    obtain ⟨OY, OYd⟩ := L7.dayC_ok HGG.out.1 HGG.out.2.1 HGG.out.2.2 j (by omega)
    have ab := (L7.Mid.start (Z := L7.dayC C F G k x j) HL.out.ok).range OY OY
    obtain ⟨⟨a1, a2⟩, b1, b2⟩ := ab
    by_cases hlt : dd < day
    · have OZ := (L7.dayC_ok HGG.out.1 HGG.out.2.1 HGG.out.2.2 (j + 1) (by have := HL.out.day; push_cast; omega)).1
      obtain ⟨f, s, hff, hss, fl, GF, ⟨p1, p2, p3⟩, ⟨q1, q2, q3⟩, n0, n1, n2, n3⟩ := L7.day_shares (Y := L7.dayC C F G k x j) (dd := dd) HGG.out.1 HGG.out.2.1 (by rw [OYd]; exact HL.out.day.symm)
      have SH := fun z => L7.rShares_any C f dd (gw W1 z) (HC.out.below (below_gw W1 z)) HGG.out.1 fl jd0 (by omega)
      rw [hss] at SH
      have ZN : L7.dayC C F G k x (j + 1) = (L7.dayC C F G k x j).next C F G k := rfl
      rw [ZN] at OZ
      have YA := HL.out.ok
      obtain ⟨Y, hY⟩ : ∃ c, L7.dayC C F G k x j = c := ⟨_, rfl⟩
      rw [hY] at OY OZ n0 n1 n2 n3 YA ZN
      obtain ⟨Z, hZ⟩ : ∃ c, Y.next C F G k = c := ⟨_, rfl⟩
      rw [hZ] at OZ n0 n1 n2 n3 ZN
      replace ZN := Lib.hid ZN
      replace YA := Lib.hid YA
      clear hY hZ hff hss OYd
      generalize (C.RA f).A s = p at *
      generalize (C.RA f).B s = q at *
      generalize (C.RW f).A s = r at *
      generalize (C.RW f).B s = v at *
      replace SH := Lib.hid SH
      have HN := Lib.hid (And.intro n0 (And.intro n1 (And.intro n2 n3)))
      have HOY := Lib.hid (And.intro OY OZ)
      have HGF := Lib.hid GF
      clear n0 n1 n2 n3 OY OZ GF
      obtain ⟨_, ⟨y0, y1, y2⟩, y3, y4, y5⟩ := L7.contB_t HOY.out.1
      have FZ := Lib.hid (L7.floZ_zero F G k dd)
      have SR := Lib.hid (L7.staysB_t HGG.out.2.1).2.1
      have SMM := Lib.hid (L7.staysB_t HGG.out.2.1).2.2
      go_wp2_with fail
      go_loopw [19, 142] (fun fl iv wr => ∃ i : Nat, i ≤ k ∧ iv = .int .i64 i ∧ fl = .int .i64 (L7.floZ F G k dd i) ∧ ∃ y, wr = gw W1 y) (fun _ iv _ => k - (intOf iv).toNat)
      case atStart => exact ⟨0, Nat.zero_le _, rfl, by rw [FZ.out], z, rfl⟩
      case round =>
        obtain ⟨i, hi, rfl, rfl, y, rfl⟩ := hrel
        by_cases hli : i < k
        · obtain ⟨u1, u2⟩ := SC.out i hli
          have si := SR.out i hli
          obtain ⟨⟨si0, si1⟩, si2, si3⟩ := si
          go_upto_region 12 with (fail)
          obtain ⟨V, hV⟩ : ∃ V, (gw W1 y).alloc (.cells #[.int .i64 (F i), .int .i64 (G i)] 41) = V := ⟨_, rfl⟩
          have zV : V.heap[W1.heap.size + y.bs.size]? = some (.cells #[.int .i64 (F i), .int .i64 (G i)] 41 (0, 0)) := by rw [← hV]; exact alloc_at (by simp [gw_size])
          have v0 : V.cell? ⟨W1.heap.size + y.bs.size, 0, none⟩ = some (.int .i64 (F i)) := cell_of_block zV 0 (by simp)
          have v1 : V.cell? ⟨W1.heap.size + y.bs.size, 1, none⟩ = some (.int .i64 (G i)) := cell_of_block zV 1 (by simp)
          have lV := (Array.getElem?_eq_some_iff.1 zV).1
          have bV : Below W1.heap.size W1 V := by rw [← hV]; exact (below_gw W1 y).alloc (by simp [gw_size]) _
          clear zV
          have EV := Lib.hid (gw_of_below bV); clear bV
          rw [hV]
          have HV := Lib.hid hV; clear hV
          by_cases hfd : F i ≤ dd
          · have NX := Lib.hid (L7.floZ_low (G := G) SMM.out hli hfd)
            go_wp2_with fail
            go_roundw
            case rel => exact ⟨i + 1, by omega, by go_num, by rw [NX.out], EV.out⟩
            case measure => simp [intOf]; omega
          · have NX := Lib.hid (L7.floZ_high (G := G) (n := k) hfd)
            go_wp2_with fail
            go_roundw
            case rel => exact ⟨i + 1, by omega, by go_num, by rw [NX.out], EV.out⟩
            case measure => simp [intOf]; omega
        · obtain rfl : k = i := by omega
          have FA : L7.floZ F G k dd k = (f : Nat) := (L7.floZ_all (by omega) (by have := F0.out; have := HL.out.day; omega)).trans HGF.out
          rw [FA]
          clear FA
          go_wp2_with fail
          refine (Calls.gw_of (SH.out _)).mono ?_
          rintro e w1 ⟨rfl, z2, rfl⟩
          go_upto_region 16 with (fail)
          obtain ⟨W2, hW2⟩ : ∃ W2, ((gw W1 z2).alloc (.cells #[.int .i64 p, .int .i64 q] 27)).alloc (.cells #[.int .i64 r, .int .i64 v] 27) = W2 := ⟨_, rfl⟩
          have b2x : Below W1.heap.size W1 W2 := by rw [← hW2]; exact ((below_gw W1 z2).alloc (by simp [gw_size]) _).alloc (by simp [gw_size] <;> omega) _
          have za : W2.heap[W1.heap.size + z2.bs.size]? = some (.cells #[.int .i64 p, .int .i64 q] 27 (0, 0)) := by rw [← hW2]; exact alloc_keep (alloc_at (by simp [gw_size]))
          have zb : W2.heap[W1.heap.size + z2.bs.size + 1]? = some (.cells #[.int .i64 r, .int .i64 v] 27 (0, 0)) := by rw [← hW2]; exact alloc_at (by simp [gw_size] <;> omega)
          have d0 : W2.cell? ⟨W1.heap.size + z2.bs.size, 0, none⟩ = some (.int .i64 p) := cell_of_block za 0 (by simp)
          have d1 : W2.cell? ⟨W1.heap.size + z2.bs.size, 1, none⟩ = some (.int .i64 q) := cell_of_block za 1 (by simp)
          have d2 : W2.cell? ⟨W1.heap.size + z2.bs.size + 1, 0, none⟩ = some (.int .i64 r) := cell_of_block zb 0 (by simp)
          have d3 : W2.cell? ⟨W1.heap.size + z2.bs.size + 1, 1, none⟩ = some (.int .i64 v) := cell_of_block zb 1 (by simp)
          have la := (Array.getElem?_eq_some_iff.1 za).1
          have lb := (Array.getElem?_eq_some_iff.1 zb).1
          have HB2 := Lib.hid b2x
          clear za zb b2x
          rw [hW2]
          clear hW2
          go_wp2_with fail
          obtain ⟨W3, hW3⟩ : ∃ V, W2.alloc (.cells #[.int .i64 p, .int .i64 q, .int .i64 r, .int .i64 v] 27) = V := ⟨_, rfl⟩
          have zs : W3.heap[W2.heap.size]? = some (.cells #[.int .i64 p, .int .i64 q, .int .i64 r, .int .i64 v] 27 (0, 0)) := by rw [← hW3]; exact alloc_at rfl
          have x0 : W3.cell? ⟨W2.heap.size, 0, none⟩ = some (.int .i64 p) := cell_of_block zs 0 (by simp)
          have x1 : W3.cell? ⟨W2.heap.size, 1, none⟩ = some (.int .i64 q) := cell_of_block zs 1 (by simp)
          have x2 : W3.cell? ⟨W2.heap.size, 2, none⟩ = some (.int .i64 r) := cell_of_block zs 2 (by simp)
          have x3 : W3.cell? ⟨W2.heap.size, 3, none⟩ = some (.int .i64 v) := cell_of_block zs 3 (by simp)
          have ls := (Array.getElem?_eq_some_iff.1 zs).1
          have HB3 := Lib.hid (show Below W1.heap.size W1 W3 by rw [← hW3]; exact HB2.out.alloc HB2.out.size _)
          clear zs d0 d1 d2 d3 la lb
          rw [hW3]
          clear hW3
          have ulW : ub < W3.heap.size := Nat.lt_of_lt_of_le ul HB3.out.size
          go_loopw [16, 17, 164] (fun al wt iv wr => ∃ (i : Nat) (ii a b : Int), i ≤ 2 ∧ ii = i ∧ al = .int .i64 a ∧ wt = .int .i64 b ∧ iv = .int .i64 ii ∧ Hid (L7.Mid Y Z i a b) ∧ ∃ y, wr = gw W3 y) (fun _ _ iv _ => 2 - (intOf iv).toNat)
          case atStart => exact ⟨0, 0, a, b, by omega, rfl, rfl, rfl, rfl, Lib.hid (.start YA.out), ⟨#[], W3.drawn⟩, by simp [gw]⟩
          case round =>
            clear a1 a2 b1 b2
            obtain ⟨i, ii, a, b, hi, hii, rfl, rfl, rfl, MI, y, rfl⟩ := hrel
            obtain ⟨⟨a1, a2⟩, b1, b2⟩ := MI.out.range HOY.out.1 HOY.out.2
            rcases (show i = 0 ∨ i = 1 ∨ i = 2 by omega) with rfl | rfl | rfl
            · obtain rfl : ii = 0 := by omega
              clear hii hi
              have m1 : 0 ≤ a * p := Int.mul_nonneg a1 p1
              have m2 : a * p ≤ 2147483648 * 100000000 := Int.mul_le_mul a2 (by omega) p1 (by omega)
              have m3 : 0 ≤ a * q := Int.mul_nonneg a1 (by omega)
              have m4 : a * q ≤ 2147483648 * 100000000 := Int.mul_le_mul a2 p3 (by omega) (by omega)
              obtain ⟨g0, g1, g2, g3⟩ := L7.go_range a1 a2 p1 p2 p3
              have GI := fun (bb : Int) hh => L7.gone_in (b := bb) (n := a) (sl := p) (sh := q) hh a1 a2 p1 p2 p3 (lo := Y.alo) (hi := Y.ahi) y0 (MI.out.a0 (by omega)).1 (MI.out.a0 (by omega)).2
              go_upto_region 19 with (fail)
              obtain ⟨V, hV⟩ : ∃ V, (gw W3 y).alloc (.cells #[.int .i64 p, .int .i64 q] 27) = V := ⟨_, rfl⟩
              have zV : V.heap[W3.heap.size + y.bs.size]? = some (.cells #[.int .i64 p, .int .i64 q] 27 (0, 0)) := by rw [← hV]; exact alloc_at (by simp [gw_size])
              have v0 : V.cell? ⟨W3.heap.size + y.bs.size, 0, none⟩ = some (.int .i64 p) := cell_of_block zV 0 (by simp)
              have v1 : V.cell? ⟨W3.heap.size + y.bs.size, 1, none⟩ = some (.int .i64 q) := cell_of_block zV 1 (by simp)
              have lV := (Array.getElem?_eq_some_iff.1 zV).1
              have bV : Below W3.heap.size W3 V := by rw [← hV]; exact (below_gw W3 y).alloc (by simp [gw_size]) _
              clear zV
              have HBV := Lib.hid bV
              clear bV
              rw [hV]
              clear hV
              obtain ⟨gg, em, ml⟩ : ∃ g : Nat, dd % ((n : Int) + 1) = g ∧ g < n + 1 := ⟨(dd % ((n : Int) + 1)).toNat, by have := Int.emod_nonneg dd (show (n : Int) + 1 ≠ 0 by omega); omega, by have := Int.emod_nonneg dd (show (n : Int) + 1 ≠ 0 by omega); have := Int.emod_lt_of_pos dd (show 0 < (n : Int) + 1 by omega); omega⟩
              have UG := (HB3.out.trans (HBV.out.mono HB3.out.size)).cell (p := ⟨ub, uo + gg, none⟩) ul |>.trans (UC.out gg ml)
              have ulV : ub < V.heap.size := Nat.lt_of_lt_of_le ulW HBV.out.size
              have RG := HR.out gg ml
              generalize U gg = ug at UG RG
              replace GI := Lib.hid (GI ug)
              unfold L7.goHi L7.goLo at *
              by_cases hlh : a * q / 1000000000 < (a * p + 1000000000 - 1) / 1000000000
              · clear GI MI
                go_upto_region 22 with (fail)
                refine wp_region_gw (by kernel_rfl) (by kernel_rfl) ?_
                repeat (go_big_quiet_step (fail))
                refine wpQuiet_nil ?_
                rintro _ ⟨z5, rfl⟩
                go_wp2_with fail
                refine (L7.awake_any _).mono ?_
                rintro e w99 ⟨rfl, hb99⟩
                go_wp2_with fail
                go_ret
                exact ⟨rfl, thru hb99 (thru ((HB3.out.trans (HBV.out.mono HB3.out.size)).trans ((below_gw V z5).mono (HB3.out.trans (HBV.out.mono HB3.out.size)).size)) HBc.out)⟩
              · have GJ := Lib.hid (GI.out hlh)
                have SG := fun W => L7.some_any ((a * p + 1000000000 - 1) / 1000000000) (a * q / 1000000000) ug W (by omega) (by omega) (by omega) RG.1 RG.2
                have cr := Int.emod_nonneg ug (show a * q / 1000000000 - (a * p + 1000000000 - 1) / 1000000000 + 1 ≠ 0 by omega)
                have cs := Int.emod_lt_of_pos ug (show 0 < a * q / 1000000000 - (a * p + 1000000000 - 1) / 1000000000 + 1 by omega)
                obtain ⟨o, ho⟩ : ∃ c, (a * p + 1000000000 - 1) / 1000000000 + ug % (a * q / 1000000000 - (a * p + 1000000000 - 1) / 1000000000 + 1) = c := ⟨_, rfl⟩
                have oc : 0 ≤ o ∧ o ≤ 2147483648 := by omega
                obtain ⟨oc0, oc1⟩ := oc
                rw [ho] at SG GJ
                replace SG := Lib.hid SG
                clear ho cr cs GI
                go_upto_region 22 with (fail)
                refine wp_region_gw (by kernel_rfl) (by kernel_rfl) ?_
                repeat (go_big_quiet_step (fail))
                refine wpQuiet_nil ?_
                rintro _ ⟨z5, rfl⟩
                go_wp2_with fail
                refine (Calls.gw_of (SG.out _)).mono ?_
                rintro e w1 ⟨rfl, z6, rfl⟩
                go_wp2_with fail
                go_roundw
                case rel => exact ⟨0 + 1, 1, a - o, b, by omega, rfl, rfl, rfl, rfl, Lib.hid (MI.out.alc (by rw [HN.out.1]; exact GJ.out.1) (by rw [HN.out.2.1]; exact GJ.out.2)), gw_of_below (HBV.out.trans ((below_gw V z6).mono HBV.out.size))⟩
                case measure => first | decide | (simp only [intOf]; decide)
            · obtain rfl : ii = 1 := by omega
              clear hii hi
              have m1 : 0 ≤ b * r := Int.mul_nonneg b1 q1
              have m2 : b * r ≤ 2147483648 * 100000000 := Int.mul_le_mul b2 (by omega) q1 (by omega)
              have m3 : 0 ≤ b * v := Int.mul_nonneg b1 (by omega)
              have m4 : b * v ≤ 2147483648 * 100000000 := Int.mul_le_mul b2 q3 (by omega) (by omega)
              obtain ⟨g0, g1, g2, g3⟩ := L7.go_range b1 b2 q1 q2 q3
              have GI := fun (bb : Int) hh => L7.gone_in (b := bb) (n := b) (sl := r) (sh := v) hh b1 b2 q1 q2 q3 (lo := Y.wlo) (hi := Y.whi) y3 (MI.out.w0 (by omega)).1 (MI.out.w0 (by omega)).2
              go_upto_region 19 with (fail)
              obtain ⟨V, hV⟩ : ∃ V, (gw W3 y).alloc (.cells #[.int .i64 r, .int .i64 v] 27) = V := ⟨_, rfl⟩
              have zV : V.heap[W3.heap.size + y.bs.size]? = some (.cells #[.int .i64 r, .int .i64 v] 27 (0, 0)) := by rw [← hV]; exact alloc_at (by simp [gw_size])
              have v0 : V.cell? ⟨W3.heap.size + y.bs.size, 0, none⟩ = some (.int .i64 r) := cell_of_block zV 0 (by simp)
              have v1 : V.cell? ⟨W3.heap.size + y.bs.size, 1, none⟩ = some (.int .i64 v) := cell_of_block zV 1 (by simp)
              have lV := (Array.getElem?_eq_some_iff.1 zV).1
              have bV : Below W3.heap.size W3 V := by rw [← hV]; exact (below_gw W3 y).alloc (by simp [gw_size]) _
              clear zV
              have HBV := Lib.hid bV
              clear bV
              rw [hV]
              clear hV
              obtain ⟨gg, em, ml⟩ : ∃ g : Nat, (dd + 1) % ((n : Int) + 1) = g ∧ g < n + 1 := ⟨((dd + 1) % ((n : Int) + 1)).toNat, by have := Int.emod_nonneg (dd + 1) (show (n : Int) + 1 ≠ 0 by omega); omega, by have := Int.emod_nonneg (dd + 1) (show (n : Int) + 1 ≠ 0 by omega); have := Int.emod_lt_of_pos (dd + 1) (show 0 < (n : Int) + 1 by omega); omega⟩
              have UG := (HB3.out.trans (HBV.out.mono HB3.out.size)).cell (p := ⟨ub, uo + gg, none⟩) ul |>.trans (UC.out gg ml)
              have ulV : ub < V.heap.size := Nat.lt_of_lt_of_le ulW HBV.out.size
              have RG := HR.out gg ml
              generalize U gg = ug at UG RG
              replace GI := Lib.hid (GI ug)
              unfold L7.goHi L7.goLo at *
              by_cases hlh : b * v / 1000000000 < (b * r + 1000000000 - 1) / 1000000000
              · clear GI MI
                go_upto_region 22 with (fail)
                refine wp_region_gw (by kernel_rfl) (by kernel_rfl) ?_
                repeat (go_big_quiet_step (fail))
                refine wpQuiet_nil ?_
                rintro _ ⟨z5, rfl⟩
                go_wp2_with fail
                refine (L7.awake_any _).mono ?_
                rintro e w99 ⟨rfl, hb99⟩
                go_wp2_with fail
                go_ret
                exact ⟨rfl, thru hb99 (thru ((HB3.out.trans (HBV.out.mono HB3.out.size)).trans ((below_gw V z5).mono (HB3.out.trans (HBV.out.mono HB3.out.size)).size)) HBc.out)⟩
              · have GJ := Lib.hid (GI.out hlh)
                have SG := fun W => L7.some_any ((b * r + 1000000000 - 1) / 1000000000) (b * v / 1000000000) ug W (by omega) (by omega) (by omega) RG.1 RG.2
                have cr := Int.emod_nonneg ug (show b * v / 1000000000 - (b * r + 1000000000 - 1) / 1000000000 + 1 ≠ 0 by omega)
                have cs := Int.emod_lt_of_pos ug (show 0 < b * v / 1000000000 - (b * r + 1000000000 - 1) / 1000000000 + 1 by omega)
                obtain ⟨o, ho⟩ : ∃ c, (b * r + 1000000000 - 1) / 1000000000 + ug % (b * v / 1000000000 - (b * r + 1000000000 - 1) / 1000000000 + 1) = c := ⟨_, rfl⟩
                have oc : 0 ≤ o ∧ o ≤ 2147483648 := by omega
                obtain ⟨oc0, oc1⟩ := oc
                rw [ho] at SG GJ
                replace SG := Lib.hid SG
                clear ho cr cs GI
                go_upto_region 22 with (fail)
                refine wp_region_gw (by kernel_rfl) (by kernel_rfl) ?_
                repeat (go_big_quiet_step (fail))
                refine wpQuiet_nil ?_
                rintro _ ⟨z5, rfl⟩
                go_wp2_with fail
                refine (Calls.gw_of (SG.out _)).mono ?_
                rintro e w1 ⟨rfl, z6, rfl⟩
                go_wp2_with fail
                go_roundw
                case rel => exact ⟨1 + 1, 2, a, b - o, by omega, rfl, rfl, rfl, rfl, Lib.hid (MI.out.wat (by rw [HN.out.2.2.1]; exact GJ.out.1) (by rw [HN.out.2.2.2]; exact GJ.out.2)), gw_of_below (HBV.out.trans ((below_gw V z6).mono HBV.out.size))⟩
                case measure => first | decide | (simp only [intOf]; decide)
            · obtain rfl : ii = 2 := by omega
              clear hii hi
              go_wp2_with fail
              go_roundw
              case rel => exact ⟨j + 1, a, b, dd + 1, rfl, rfl, rfl, Lib.hid ⟨by have := HL.out.day; have := HL.out.le; have := HM.out; omega, by have := HL.out.day; push_cast; omega, by rw [ZN.out]; exact MI.out.end_⟩, gw_of_below (HB3.out.trans ((below_gw W3 y).mono HB3.out.size))⟩
              case measure => simp only [intOf]; omega
    · have ED : j = m ∧ day = dd := by have := HL.out.day; have := HL.out.le; have := HM.out; omega
      obtain ⟨rfl, rfl⟩ := ED
      have EH := L7.errH_mk HGG.out.1 HGG.out.2.2 HGG.out.2.1 (day := day) dd0 dd1 (fun _ => F0.out)
      have TT := Lib.hid (show L7.Truly (L7.atV C x k F G day) a b by rw [L7.atV_ok EH, HM.out]; exact HL.out.ok)
      replace EH := Lib.hid EH
      clear HL jd1 jd2 OY OYd T0 hlt
      go_upto_region 31 with (fail)
      obtain ⟨V, hV⟩ : ∃ c, a + b = c := ⟨_, rfl⟩
      rw [hV]
      by_cases hv1 : V < 1000000
      · have e1 : decide (V < 1000000) = true := by simp; omega
        go_wp2_with fail
        refine (L7.awake_any _).mono ?_
        rintro e w99 ⟨rfl, hb99⟩
        go_wp2_with fail
        go_ret
        exact ⟨rfl, thru hb99 (HBc.out.gw z)⟩
      by_cases hv2 : 1000000000 < V
      · have e1 : decide (V < 1000000) = false := by simp; omega
        have e2 : decide (V > 1000000000) = true := by simp; omega
        have e3 : decide (1000000000 < V) = true := by simp; omega
        go_wp2_with fail
        refine (L7.awake_any _).mono ?_
        rintro e w99 ⟨rfl, hb99⟩
        go_wp2_with fail
        go_ret
        exact ⟨rfl, thru hb99 (HBc.out.gw z)⟩
      have f1 : decide (V < 1000000) = false := by simp; omega
      have f2 : decide (V > 1000000000) = false := by simp; omega
      have f3 : decide (1000000000 < V) = false := by simp; omega
      go_upto_region 33 with (fail)
      clear f1 f2 f3
      have V0 : 0 < V := by omega
      have V1 : ¬ V = 0 := by omega
      have V2 : (V == 0) = false := by simp; omega
      obtain ⟨⟨l0, l1, l2⟩, -⟩ := L7.around_parts a1 b1 (by omega)
      rw [hV] at l0 l1 l2
      replace hV := Lib.hid hV
      refine wp_region_gw2 (by kernel_rfl) (by kernel_rfl) ?_
      repeat (go_big_quiet_step (fail))
      refine wpQuiet_nil ?_
      rintro _ ⟨z3, rfl⟩
      obtain ⟨lo, hlo⟩ : ∃ c, a * 10000 / V = c := ⟨_, rfl⟩
      obtain ⟨hi, hhi⟩ : ∃ c, (a * 10000 + V - 1) / V = c := ⟨_, rfl⟩
      rw [hlo, hhi]
      rw [hlo] at l0 l1
      rw [hhi] at l1 l2
      replace hlo := Lib.hid hlo
      replace hhi := Lib.hid hhi
      rcases I1.out.iS with h0 | ⟨bS, oS, ea, lS, hc⟩
      · omega
      have x1 := hc 0 (by omega)
      have x2 := hc (t.nS - 1) (by omega)
      rw [Nat.add_zero] at x1
      clear hc
      have e1 : ((t.nS : Int) - 1).toNat = t.nS - 1 := by omega
      obtain ⟨s0, hs0⟩ : ∃ c, t.S 0 = c := ⟨_, rfl⟩
      obtain ⟨s1, hs1⟩ : ∃ c, t.S (t.nS - 1) = c := ⟨_, rfl⟩
      rw [hs0] at x1 S0r
      rw [hs1] at x2 S1r
      rw [ea] at c01
      clear ea
      replace hs0 := Lib.hid hs0
      replace hs1 := Lib.hid hs1
      by_cases hv3 : lo < max 1000 s0
      · have g1 : decide (lo < max 1000 s0) = true := by simp; omega
        clear hv3
        go_wp2_with fail
        refine (L7.awake_any _).mono ?_
        rintro e w99 ⟨rfl, hb99⟩
        go_wp2_with fail
        go_ret
        exact ⟨rfl, thru hb99 (HBc.out.gw z3)⟩
      by_cases hv4 : min 9000 s1 < hi
      · have g1 : decide (lo < max 1000 s0) = false := by simp; omega
        have g2 : decide (hi > min 9000 s1) = true := by simp; omega
        have g3 : decide (min 9000 s1 < hi) = true := by simp; omega
        clear hv3 hv4
        go_wp2_with fail
        refine (L7.awake_any _).mono ?_
        rintro e w99 ⟨rfl, hb99⟩
        go_wp2_with fail
        go_ret
        exact ⟨rfl, thru hb99 (HBc.out.gw z3)⟩
      have g1 : decide (lo < max 1000 s0) = false := by simp; omega
      have g2 : decide (hi > min 9000 s1) = false := by simp; omega
      have g3 : decide (min 9000 s1 < hi) = false := by simp; omega
      have sb0 : s0 ≤ lo := by omega
      have sb1 : hi ≤ s1 := by omega
      have lh : 1000 ≤ lo ∧ hi ≤ 9000 := by omega
      clear hv3 hv4
      go_upto_region 36 with (fail)
      clear g1 g2 g3 x1 x2 e1 lS
      refine wp_region_gw2 (by kernel_rfl) (by kernel_rfl) ?_
      repeat (go_big_quiet_step ((go_at_call 10; with_reducible exact Calls.gw_of (SW.out _))))
      refine wpQuiet_nil ?_
      rintro _ ⟨z4, rfl⟩
      clear c00 c01 c02 c03 c10 c11 c20 c21 c22 c30 c31 c32 c33 c34 lc0 lc1 lc2 lc3 U1 SC UC SW
      obtain ⟨Wb, hWb⟩ : ∃ c, gw W1 z4 = c := ⟨_, rfl⟩
      have bWb : Below W1.heap.size W1 Wb := by rw [← hWb]; exact below_gw W1 z4
      rw [hWb]
      clear hWb
      have ZT1 := Lib.hid ((bWb.block _ (Array.getElem?_eq_some_iff.1 Zc0.out).1).trans Zc0.out)
      have ZM2 := Lib.hid ((bWb.block _ (Array.getElem?_eq_some_iff.1 Zc1.out).1).trans Zc1.out)
      have ZC3 := Lib.hid ((bWb.block _ (Array.getElem?_eq_some_iff.1 Zc2.out).1).trans Zc2.out)
      have ZX4 := Lib.hid ((bWb.block _ (Array.getElem?_eq_some_iff.1 Zc3.out).1).trans Zc3.out)
      have LOW5 := Lib.hid (thru bWb HBc.out)
      clear bWb Zc0 Zc1 Zc2 Zc3 HBc
      have IB := Lib.hid (HT0.out.below LOW5.out)
      obtain ⟨g, hok, hTT⟩ := GD.out
      have ftw : t.tb.FitT wm wm := ⟨by show t.T 0 ≤ wm; omega, Int.le_refl _, by show wm ≤ t.T (t.nT - 1); omega⟩
      have fsl : t.tb.FitS lo lo := ⟨by show t.S 0 ≤ lo; rw [hs0.out]; exact sb0, Int.le_refl _, by show lo ≤ t.S (t.nS - 1); rw [hs1.out]; omega⟩
      have fsh : t.tb.FitS hi hi := ⟨by show t.S 0 ≤ hi; rw [hs0.out]; omega, Int.le_refl _, by show hi ≤ t.S (t.nS - 1); rw [hs1.out]; exact sb1⟩
      have fss : t.tb.FitS lo hi := ⟨by show t.S 0 ≤ lo; rw [hs0.out]; exact sb0, l1, by show hi ≤ t.S (t.nS - 1); rw [hs1.out]; exact sb1⟩
      have VA := fun W (hb : Below Wb.heap.size Wb W) => L1.rValue_any t g t.H wm lo W (IB.out.below hb) (g.rowsH (IB.out.below hb)) ftw fsl
      have VB := fun W (hb : Below Wb.heap.size Wb W) => L1.rValue_any t g t.H wm hi W (IB.out.below hb) (g.rowsH (IB.out.below hb)) ftw fsh
      have EN := fun W (hb : Below w.heap.size w W) => L1.rEnds_any t g t.R lo hi wm wm W (HT0.out.below hb) (g.rowsR (HT0.out.below hb)) ftw fss
      have hv := g.fit (g.rowsH IB.out) ftw fsl
      have kv := g.fit (g.rowsH IB.out) ftw fsh
      obtain ⟨lv, lvn⟩ := L1.rlowR_ok g IB.out ftw fss
      obtain ⟨mv, mvn⟩ := L1.rhighR_ok g IB.out ftw fss
      obtain ⟨⟨rm0, rm1⟩, rm2, rm3⟩ := L1.room_two g (x := wm) (a := lo) (b := hi) ftw.a ftw.c fss.a fss.b fss.c
      have rmc := L1.flr_le_cei (L1.hval_d g t.R wm lo)
      have hvr := L1.hval_range g (x := wm) (y := lo) ftw.a ftw.c fsl.a fsl.c
      have kvr := L1.hval_range g (x := wm) (y := hi) ftw.a ftw.c fsh.a fsh.c
      have hvc := L1.flr_le_cei (L1.hval_d g t.H wm lo)
      have kvc := L1.flr_le_cei (L1.hval_d g t.H wm hi)
      have GP := L1.gauge_plain (V := V / 1000) (U := (V + 999) / 1000) g hok hTT (x := wm) (by omega) (by omega) fss.a fss.b fss.c (by omega) (by omega) (by omega)
      obtain ⟨me, mm, mV, ⟨w0, w1⟩, ⟨w2, w3⟩, ⟨w4, w5⟩, w6, w7⟩ := GP
      have tf : t.Fits := ⟨by omega, by omega, ⟨by rw [g.hn]; omega, fun i hi => by rw [g.hl i (by rw [g.hn] at hi; exact hi)]; omega⟩, ⟨by rw [g.rn]; omega, fun i hi => by rw [g.rl i (by rw [g.rn] at hi; exact hi)]; omega⟩⟩
      have ME := fun W (hb : Below w.heap.size w W) => L1.Measured_any t (V / 1000 * (t.rlow t.R lo hi wm wm).flr / 1000000) (upI ((V + 999) / 1000 * (t.rhigh t.R lo hi wm wm).cei) 1000000) (t.valM t.H wm lo).flr (t.valM t.H wm hi).cei tlo thi W (HT0.out.below hb) tf
      simp only [me, mV] at ME
      unfold L1.Me.out L1.Tab.val upI at ME
      clear me mV
      unfold L1.Tab.val L1.Rows.val L1.Fr.val at VA VB EN
      have FA := fun W => L1.rfloor_any (t.valM t.H wm lo).n (t.valM t.H wm lo).d W hv.n1 hv.n2 hv.d1
      have FB := fun W => L1.rceil_any (t.valM t.H wm hi).n (t.valM t.H wm hi).d W kv.n1 kv.n2 kv.d1
      have FC := fun W => L1.rfloor_any (t.rlow t.R lo hi wm wm).n (t.rlow t.R lo hi wm wm).d W lv.n1 lv.n2 lv.d1
      have FD := fun W => L1.rceil_any (t.rhigh t.R lo hi wm wm).n (t.rhigh t.R lo hi wm wm).d W mv.n1 mv.n2 mv.d1
      simp only [show (t.valM t.H wm lo).n / (t.valM t.H wm lo).d = (t.valM t.H wm lo).flr from rfl] at FA
      simp only [show upI (t.valM t.H wm hi).n (t.valM t.H wm hi).d = (t.valM t.H wm hi).cei from rfl] at FB
      simp only [show (t.rlow t.R lo hi wm wm).n / (t.rlow t.R lo hi wm wm).d = (t.rlow t.R lo hi wm wm).flr from rfl] at FC
      simp only [show upI (t.rhigh t.R lo hi wm wm).n (t.rhigh t.R lo hi wm wm).d = (t.rhigh t.R lo hi wm wm).cei from rfl] at FD
      clear hv kv lv lvn mv mvn tf ftw fsl fsh fss g hok hTT GD
      generalize (t.valM t.H wm lo).flr = p at *
      generalize (t.valM t.H wm hi).cei = q at *
      generalize (t.valM t.H wm lo).n = hn at *
      generalize (t.valM t.H wm lo).d = hd at *
      generalize (t.valM t.H wm hi).n = kn at *
      generalize (t.valM t.H wm hi).d = kd at *
      generalize (t.rlow t.R lo hi wm wm).flr = le at *
      generalize (t.rhigh t.R lo hi wm wm).cei = mo at *
      generalize (t.rlow t.R lo hi wm wm).n = ln at *
      generalize (t.rlow t.R lo hi wm wm).d = ld at *
      generalize (t.rhigh t.R lo hi wm wm).n = mn at *
      generalize (t.rhigh t.R lo hi wm wm).d = md at *
      obtain ⟨mvl, mvh, msl, msh, mpl, mph⟩ := mm
      dsimp only at w0 w1 w2 w3 w4 w5 w6 w7 ME
      have le1 : le ≤ 1100000 := by omega
      have mo0 : 900000 ≤ mo := by omega
      clear rm1 rm2 rmc hvr kvr hvc kvc
      replace VA := Lib.hid VA
      replace VB := Lib.hid VB
      replace EN := Lib.hid EN
      replace ME := Lib.hid ME
      replace FA := Lib.hid FA
      replace FB := Lib.hid FB
      replace FC := Lib.hid FC
      replace FD := Lib.hid FD
      have lT := (Array.getElem?_eq_some_iff.1 ZT1.out).1
      have cT0 : Wb.cell? ⟨w.heap.size, 0, none⟩ = some (.slice t.aT t.nT t.cT) := cell_of_block ZT1.out 0 (by simp)
      have cT1 : Wb.cell? ⟨w.heap.size, 1, none⟩ = some (.slice t.aS t.nS t.cS) := cell_of_block ZT1.out 1 (by simp)
      have cT2 : Wb.cell? ⟨w.heap.size, 2, none⟩ = some (.slice t.H.a t.H.n t.H.c) := cell_of_block ZT1.out 2 (by simp)
      have cT3 : Wb.cell? ⟨w.heap.size, 3, none⟩ = some (.slice t.R.a t.R.n t.R.c) := cell_of_block ZT1.out 3 (by simp)
      go_upto_region 37 with (fail)
      refine wp_region_box2 [true, true, true, true, true, true, true, true, true, true, true, true, false, false, false, false] 12 14 13 15 #[.int .i64 0, .int .i64 0] #[.int .i64 hn, .int .i64 hd] #[.int .i64 0, .int .i64 0] #[.int .i64 kn, .int .i64 kd] (by kernel_rfl) rfl rfl rfl rfl rfl (by kernel_rfl) rfl (by kernel_rfl) rfl (by kernel_rfl) rfl L1.infoFr rfl rfl (by simp [Value.oneCell']) L1.infoFr rfl rfl (by simp [Value.oneCell']) ?_
      apply Exists.intro
      refine ⟨fun S hS hx => ?_, ?_, ?_, ?_⟩
      · obtain ⟨x0, hx0⟩ := hx
        haveI : Nonempty (GrewS Wb S) := ⟨⟨x0, hx0⟩⟩
        simp only [pickM]
        repeat (go_big_quiet_step (first | (go_at_call 12; with_reducible exact Calls.gwS hS (VA.out _ (below_gw Wb _))) | (go_at_call 12; with_reducible exact Calls.gwS hS (VB.out _ (below_gw Wb _)))))
        exact wpQuiet_nil rfl
      · rfl
      · rfl
      · intro BA BB Wc hq1 hq2 hq3 hk1 hk2 hbb
        have KA := Lib.hid hk1
        have KB := Lib.hid hk2
        clear hk1 hk2 hq1 hq2 hq3 VA VB
        clear lT cT0 cT1 cT2 cT3
        have ZT6 := Lib.hid ((hbb.block _ (Array.getElem?_eq_some_iff.1 ZT1.out).1).trans ZT1.out)
        have ZM7 := Lib.hid ((hbb.block _ (Array.getElem?_eq_some_iff.1 ZM2.out).1).trans ZM2.out)
        have ZC8 := Lib.hid ((hbb.block _ (Array.getElem?_eq_some_iff.1 ZC3.out).1).trans ZC3.out)
        have ZX9 := Lib.hid ((hbb.block _ (Array.getElem?_eq_some_iff.1 ZX4.out).1).trans ZX4.out)
        have LOW10 := Lib.hid (thru hbb LOW5.out)
        clear hbb ZT1 ZM2 ZC3 ZX4 LOW5
        go_upto_region 38 with (fail)
        simp only [Act.put, List.setIfInBounds_toArray, List.set_cons_succ, List.set_cons_zero]
        have lA := (Array.getElem?_eq_some_iff.1 KA.out).1
        have cA0 : Wc.cell? ⟨BA, 0, none⟩ = some (.int .i64 hn) := cell_of_block KA.out 0 (by simp)
        have cA1 : Wc.cell? ⟨BA, 1, none⟩ = some (.int .i64 hd) := cell_of_block KA.out 1 (by simp)
        have lB := (Array.getElem?_eq_some_iff.1 KB.out).1
        have cB0 : Wc.cell? ⟨BB, 0, none⟩ = some (.int .i64 kn) := cell_of_block KB.out 0 (by simp)
        have cB1 : Wc.cell? ⟨BB, 1, none⟩ = some (.int .i64 kd) := cell_of_block KB.out 1 (by simp)
        refine wp_region_box1 [true, true, true, true, true, false, false] 5 6 #[.int .i64 0, .int .i64 0] #[.int .i64 p, .int .i64 q] (by kernel_rfl) rfl rfl rfl (by kernel_rfl) rfl (by kernel_rfl) infoSp rfl rfl (by simp [Value.oneCell']) ?_
        apply Exists.intro
        refine ⟨fun S hS hx => ?_, ?_, ?_⟩
        · obtain ⟨x0, hx0⟩ := hx
          haveI : Nonempty (GrewS Wc S) := ⟨⟨x0, hx0⟩⟩
          simp only [pickM]
          repeat (go_big_quiet_step (first | (go_at_call 13; with_reducible exact Calls.gwS hS (FA.out _)) | (go_at_call 14; with_reducible exact Calls.gwS hS (FB.out _))))
          exact wpQuiet_nil rfl
        · rfl
        · intro BS Wd hBwS hblk hbb
          have KS := Lib.hid hblk; clear hblk hBwS
          clear lA cA0 cA1 lB cB0 cB1
          have ZT11 := Lib.hid ((hbb.block _ (Array.getElem?_eq_some_iff.1 ZT6.out).1).trans ZT6.out)
          have ZM12 := Lib.hid ((hbb.block _ (Array.getElem?_eq_some_iff.1 ZM7.out).1).trans ZM7.out)
          have ZC13 := Lib.hid ((hbb.block _ (Array.getElem?_eq_some_iff.1 ZC8.out).1).trans ZC8.out)
          have ZX14 := Lib.hid ((hbb.block _ (Array.getElem?_eq_some_iff.1 ZX9.out).1).trans ZX9.out)
          have ZA15 := Lib.hid ((hbb.block _ (Array.getElem?_eq_some_iff.1 KA.out).1).trans KA.out)
          have ZB16 := Lib.hid ((hbb.block _ (Array.getElem?_eq_some_iff.1 KB.out).1).trans KB.out)
          have LOW17 := Lib.hid (thru hbb LOW10.out)
          clear hbb ZT6 ZM7 ZC8 ZX9 KA KB LOW10
          skip
          have lT := (Array.getElem?_eq_some_iff.1 ZT11.out).1
          have cT0 : Wd.cell? ⟨w.heap.size, 0, none⟩ = some (.slice t.aT t.nT t.cT) := cell_of_block ZT11.out 0 (by simp)
          have cT1 : Wd.cell? ⟨w.heap.size, 1, none⟩ = some (.slice t.aS t.nS t.cS) := cell_of_block ZT11.out 1 (by simp)
          have cT2 : Wd.cell? ⟨w.heap.size, 2, none⟩ = some (.slice t.H.a t.H.n t.H.c) := cell_of_block ZT11.out 2 (by simp)
          have cT3 : Wd.cell? ⟨w.heap.size, 3, none⟩ = some (.slice t.R.a t.R.n t.R.c) := cell_of_block ZT11.out 3 (by simp)
          go_wp2_with fail
          refine (EN.out _ LOW17.out).mono ?_
          rintro e we ⟨rfl, hbe⟩
          clear EN FA FB
          clear lT cT0 cT1 cT2 cT3
          have ZT18 := Lib.hid ((hbe.block _ (Array.getElem?_eq_some_iff.1 ZT11.out).1).trans ZT11.out)
          have ZM19 := Lib.hid ((hbe.block _ (Array.getElem?_eq_some_iff.1 ZM12.out).1).trans ZM12.out)
          have ZC20 := Lib.hid ((hbe.block _ (Array.getElem?_eq_some_iff.1 ZC13.out).1).trans ZC13.out)
          have ZX21 := Lib.hid ((hbe.block _ (Array.getElem?_eq_some_iff.1 ZX14.out).1).trans ZX14.out)
          have ZS22 := Lib.hid ((hbe.block _ (Array.getElem?_eq_some_iff.1 KS.out).1).trans KS.out)
          have LOW23 := Lib.hid (thru hbe LOW17.out)
          clear hbe ZT11 ZM12 ZC13 ZX14 KS LOW17
          go_upto_region 40 with (fail)
          obtain ⟨Wf, hWf⟩ : ∃ V, ((we).alloc (.cells #[.int .i64 ln, .int .i64 ld] 49)).alloc (.cells #[.int .i64 mn, .int .i64 md] 49) = V := ⟨_, rfl⟩
          have bWf : Below we.heap.size we Wf := by rw [← hWf]; exact (below_alloc _ _).alloc (by simp) _
          have zWf_P : Wf.heap[we.heap.size]? = some (.cells #[.int .i64 ln, .int .i64 ld] 49 (0, 0)) := by rw [← hWf]; exact alloc_keep (alloc_at rfl)
          have zWf_Q : Wf.heap[we.heap.size + 1]? = some (.cells #[.int .i64 mn, .int .i64 md] 49 (0, 0)) := by rw [← hWf]; exact alloc_at (by simp)
          rw [hWf]
          clear hWf
          have ZT24 := Lib.hid ((bWf.block _ (Array.getElem?_eq_some_iff.1 ZT18.out).1).trans ZT18.out)
          have ZM25 := Lib.hid ((bWf.block _ (Array.getElem?_eq_some_iff.1 ZM19.out).1).trans ZM19.out)
          have ZC26 := Lib.hid ((bWf.block _ (Array.getElem?_eq_some_iff.1 ZC20.out).1).trans ZC20.out)
          have ZX27 := Lib.hid ((bWf.block _ (Array.getElem?_eq_some_iff.1 ZX21.out).1).trans ZX21.out)
          have ZS28 := Lib.hid ((bWf.block _ (Array.getElem?_eq_some_iff.1 ZS22.out).1).trans ZS22.out)
          have LOW29 := Lib.hid (thru bWf LOW23.out)
          clear bWf ZT18 ZM19 ZC20 ZX21 ZS22 LOW23
          have ZP30 := Lib.hid zWf_P
          clear zWf_P
          have ZQ31 := Lib.hid zWf_Q
          clear zWf_Q
          have lP := (Array.getElem?_eq_some_iff.1 ZP30.out).1
          have cP0 : Wf.cell? ⟨we.heap.size, 0, none⟩ = some (.int .i64 ln) := cell_of_block ZP30.out 0 (by simp)
          have cP1 : Wf.cell? ⟨we.heap.size, 1, none⟩ = some (.int .i64 ld) := cell_of_block ZP30.out 1 (by simp)
          have lQ := (Array.getElem?_eq_some_iff.1 ZQ31.out).1
          have cQ0 : Wf.cell? ⟨we.heap.size + 1, 0, none⟩ = some (.int .i64 mn) := cell_of_block ZQ31.out 0 (by simp)
          have cQ1 : Wf.cell? ⟨we.heap.size + 1, 1, none⟩ = some (.int .i64 md) := cell_of_block ZQ31.out 1 (by simp)
          have m1 : 0 ≤ V / 1000 * le := Int.mul_nonneg (by omega) (by omega)
          have m2 : V / 1000 * le ≤ 1000000 * 1100000 := Int.mul_le_mul (by omega) le1 (by omega) (by omega)
          have m3 : 0 ≤ (V + 999) / 1000 * mo := Int.mul_nonneg (by omega) (by omega)
          have m4 : (V + 999) / 1000 * mo ≤ 1000000 * 1100000 := Int.mul_le_mul (by omega) rm3 (by omega) (by omega)
          refine wp_region_box1 [true, true, true, true, true, true, true, true, true, true, true, true, true, true, true, true, false, false] 16 17 #[.int .i64 0, .int .i64 0] #[.int .i64 (V / 1000 * le / 1000000), .int .i64 (((V + 999) / 1000 * mo + 1000000 - 1) / 1000000)] (by kernel_rfl) rfl rfl rfl (by kernel_rfl) rfl (by kernel_rfl) infoSp rfl rfl (by simp [Value.oneCell']) ?_
          apply Exists.intro
          refine ⟨fun S hS hx => ?_, ?_, ?_⟩
          · obtain ⟨x0, hx0⟩ := hx
            haveI : Nonempty (GrewS Wf S) := ⟨⟨x0, hx0⟩⟩
            simp only [pickM]
            repeat (go_big_quiet_step (first | (go_at_call 13; with_reducible exact Calls.gwS hS (FC.out _)) | (go_at_call 14; with_reducible exact Calls.gwS hS (FD.out _))))
            exact wpQuiet_nil rfl
          · rfl
          · intro BN Wg hBwN hblk hbb
            have KN := Lib.hid hblk; clear hblk hBwN
            clear lP cP0 cP1 lQ cQ0 cQ1
            have ZT32 := Lib.hid ((hbb.block _ (Array.getElem?_eq_some_iff.1 ZT24.out).1).trans ZT24.out)
            have ZM33 := Lib.hid ((hbb.block _ (Array.getElem?_eq_some_iff.1 ZM25.out).1).trans ZM25.out)
            have ZC34 := Lib.hid ((hbb.block _ (Array.getElem?_eq_some_iff.1 ZC26.out).1).trans ZC26.out)
            have ZX35 := Lib.hid ((hbb.block _ (Array.getElem?_eq_some_iff.1 ZX27.out).1).trans ZX27.out)
            have ZS36 := Lib.hid ((hbb.block _ (Array.getElem?_eq_some_iff.1 ZS28.out).1).trans ZS28.out)
            have ZP37 := Lib.hid ((hbb.block _ (Array.getElem?_eq_some_iff.1 ZP30.out).1).trans ZP30.out)
            have ZQ38 := Lib.hid ((hbb.block _ (Array.getElem?_eq_some_iff.1 ZQ31.out).1).trans ZQ31.out)
            have LOW39 := Lib.hid (thru hbb LOW29.out)
            clear hbb ZT24 ZM25 ZC26 ZX27 ZS28 ZP30 ZQ31 LOW29
            skip
            clear m1 m2 m3 m4 FC FD
            have lT := (Array.getElem?_eq_some_iff.1 ZT32.out).1
            have cT0 : Wg.cell? ⟨w.heap.size, 0, none⟩ = some (.slice t.aT t.nT t.cT) := cell_of_block ZT32.out 0 (by simp)
            have cT1 : Wg.cell? ⟨w.heap.size, 1, none⟩ = some (.slice t.aS t.nS t.cS) := cell_of_block ZT32.out 1 (by simp)
            have cT2 : Wg.cell? ⟨w.heap.size, 2, none⟩ = some (.slice t.H.a t.H.n t.H.c) := cell_of_block ZT32.out 2 (by simp)
            have cT3 : Wg.cell? ⟨w.heap.size, 3, none⟩ = some (.slice t.R.a t.R.n t.R.c) := cell_of_block ZT32.out 3 (by simp)
            have lN := (Array.getElem?_eq_some_iff.1 KN.out).1
            have cN0 : Wg.cell? ⟨BN, 0, none⟩ = some (.int .i64 (V / 1000 * le / 1000000)) := cell_of_block KN.out 0 (by simp)
            have cN1 : Wg.cell? ⟨BN, 1, none⟩ = some (.int .i64 (((V + 999) / 1000 * mo + 1000000 - 1) / 1000000)) := cell_of_block KN.out 1 (by simp)
            have lS := (Array.getElem?_eq_some_iff.1 ZS36.out).1
            have cS0 : Wg.cell? ⟨BS, 0, none⟩ = some (.int .i64 p) := cell_of_block ZS36.out 0 (by simp)
            have cS1 : Wg.cell? ⟨BS, 1, none⟩ = some (.int .i64 q) := cell_of_block ZS36.out 1 (by simp)
            have lM := (Array.getElem?_eq_some_iff.1 ZM33.out).1
            have cM0 : Wg.cell? ⟨w.heap.size + 1, 0, none⟩ = some (.int .i64 tlo) := cell_of_block ZM33.out 0 (by simp)
            have cM1 : Wg.cell? ⟨w.heap.size + 1, 1, none⟩ = some (.int .i64 thi) := cell_of_block ZM33.out 1 (by simp)
            go_wp2_with fail
            refine (ME.out _ LOW39.out).mono ?_
            rintro e wh ⟨rfl, hbh⟩
            clear ME
            clear lT cT0 cT1 cT2 cT3 lN cN0 cN1 lS cS0 cS1 lM cM0 cM1
            have ZT40 := Lib.hid ((hbh.block _ (Array.getElem?_eq_some_iff.1 ZT32.out).1).trans ZT32.out)
            have ZM41 := Lib.hid ((hbh.block _ (Array.getElem?_eq_some_iff.1 ZM33.out).1).trans ZM33.out)
            have ZC42 := Lib.hid ((hbh.block _ (Array.getElem?_eq_some_iff.1 ZC34.out).1).trans ZC34.out)
            have ZX43 := Lib.hid ((hbh.block _ (Array.getElem?_eq_some_iff.1 ZX35.out).1).trans ZX35.out)
            have ZS44 := Lib.hid ((hbh.block _ (Array.getElem?_eq_some_iff.1 ZS36.out).1).trans ZS36.out)
            have ZN45 := Lib.hid ((hbh.block _ (Array.getElem?_eq_some_iff.1 KN.out).1).trans KN.out)
            have LOW46 := Lib.hid (thru hbh LOW39.out)
            clear hbh ZT32 ZM33 ZC34 ZX35 ZS36 KN LOW39
            go_upto_region 42 with (fail)
            obtain ⟨Wi, hWi⟩ : ∃ V, (((wh).alloc (.cells #[.int .i64 mvl, .int .i64 mvh] 27)).alloc (.cells #[.int .i64 msl, .int .i64 msh] 27)).alloc (.cells #[.int .i64 mpl, .int .i64 mph] 27) = V := ⟨_, rfl⟩
            have bWi : Below wh.heap.size wh Wi := by rw [← hWi]; exact ((below_alloc _ _).alloc (by simp) _).alloc (by simp <;> omega) _
            have zWi_V : Wi.heap[wh.heap.size]? = some (.cells #[.int .i64 mvl, .int .i64 mvh] 27 (0, 0)) := by rw [← hWi]; exact alloc_keep (alloc_keep (alloc_at rfl))
            have zWi_W : Wi.heap[wh.heap.size + 1]? = some (.cells #[.int .i64 msl, .int .i64 msh] 27 (0, 0)) := by rw [← hWi]; exact alloc_keep (alloc_at (by simp))
            have zWi_U : Wi.heap[wh.heap.size + 1 + 1]? = some (.cells #[.int .i64 mpl, .int .i64 mph] 27 (0, 0)) := by rw [← hWi]; exact alloc_at (by simp <;> omega)
            rw [hWi]
            clear hWi
            have ZC47 := Lib.hid ((bWi.block _ (Array.getElem?_eq_some_iff.1 ZC42.out).1).trans ZC42.out)
            have ZX48 := Lib.hid ((bWi.block _ (Array.getElem?_eq_some_iff.1 ZX43.out).1).trans ZX43.out)
            have LOW49 := Lib.hid (thru bWi LOW46.out)
            clear bWi ZC42 ZX43 LOW46
            have ZV50 := Lib.hid zWi_V
            clear zWi_V
            have ZW51 := Lib.hid zWi_W
            clear zWi_W
            have ZU52 := Lib.hid zWi_U
            clear zWi_U
            have lV := (Array.getElem?_eq_some_iff.1 ZV50.out).1
            have cV0 : Wi.cell? ⟨wh.heap.size, 0, none⟩ = some (.int .i64 mvl) := cell_of_block ZV50.out 0 (by simp)
            have cV1 : Wi.cell? ⟨wh.heap.size, 1, none⟩ = some (.int .i64 mvh) := cell_of_block ZV50.out 1 (by simp)
            have lW := (Array.getElem?_eq_some_iff.1 ZW51.out).1
            have cW0 : Wi.cell? ⟨wh.heap.size + 1, 0, none⟩ = some (.int .i64 msl) := cell_of_block ZW51.out 0 (by simp)
            have cW1 : Wi.cell? ⟨wh.heap.size + 1, 1, none⟩ = some (.int .i64 msh) := cell_of_block ZW51.out 1 (by simp)
            have g1 : decide (mvl < 0) = false := by simp; omega
            have g2 : decide (mvh > 2147483) = false := by simp; omega
            have g3 : decide (2147483 < mvh) = false := by simp; omega
            go_upto_region 45 with (fail)
            clear g1 g2 g3
            obtain ⟨Wj, hWj⟩ : ∃ V, (Wi).alloc (.cells #[.int .i64 day, .int .i64 (1000 * mvl), .int .i64 (1000 * mvh), .int .i64 msl, .int .i64 msh] 58) = V := ⟨_, rfl⟩
            have bWj : Below Wi.heap.size Wi Wj := by rw [← hWj]; exact below_alloc _ _
            have zWj_G : Wj.heap[Wi.heap.size]? = some (.cells #[.int .i64 day, .int .i64 (1000 * mvl), .int .i64 (1000 * mvh), .int .i64 msl, .int .i64 msh] 58 (0, 0)) := by rw [← hWj]; exact alloc_at rfl
            rw [hWj]
            clear hWj
            clear lV cV0 cV1 lW cW0 cW1
            have ZC53 := Lib.hid ((bWj.block _ (Array.getElem?_eq_some_iff.1 ZC47.out).1).trans ZC47.out)
            have ZX54 := Lib.hid ((bWj.block _ (Array.getElem?_eq_some_iff.1 ZX48.out).1).trans ZX48.out)
            have ZV55 := Lib.hid ((bWj.block _ (Array.getElem?_eq_some_iff.1 ZV50.out).1).trans ZV50.out)
            have ZW56 := Lib.hid ((bWj.block _ (Array.getElem?_eq_some_iff.1 ZW51.out).1).trans ZW51.out)
            have LOW57 := Lib.hid (thru bWj LOW49.out)
            clear bWj ZC47 ZX48 ZV50 ZW51 LOW49
            have ZG58 := Lib.hid zWj_G
            clear zWj_G
            obtain ⟨o1, o2, o3, y, o4, o5⟩ := L7.gauge_house (vl := mvl) (vh := mvh) (sl := msl) (sh := msh) EH.out TT.out a1 b1 (by have := hV.out; omega) w0 (by have := hV.out; omega) (by have := hV.out; omega) w3 w4 (by rw [hV.out, hlo.out]; exact w5) (by rw [hV.out, hhi.out]; exact w6) w7
            obtain ⟨y0, y1, y2, y3⟩ := o5
            have SO := fun W (hb : Below w.heap.size w W) => L7.Shows_any C x (some ⟨sb, so, none⟩) k cS F G ⟨day, 1000 * mvl, 1000 * mvh, msl, msh⟩ W (HC0.out.below hb) hf hk (HS0.out.below hb)
            have MO := fun W (hb : Below w.heap.size w W) => L7.Measure_any C x (some ⟨sb, so, none⟩) k cS F G ⟨day, 1000 * mvl, 1000 * mvh, msl, msh⟩ W (HC0.out.below hb) hf hk (HS0.out.below hb)
            rw [o1, o2] at SO
            rw [o3, o4] at MO
            unfold L7.Cont.val L7.Reg.val at SO MO
            dsimp only at SO MO
            clear o1 o2 o3 o4 EH TT
            replace SO := Lib.hid SO
            replace MO := Lib.hid MO
            have lC := (Array.getElem?_eq_some_iff.1 ZC53.out).1
            have cC0 : Wj.cell? ⟨w.heap.size + 1 + 1, 0, none⟩ = some (.int .i64 C.days) := cell_of_block ZC53.out 0 (by simp)
            have cC1 : Wj.cell? ⟨w.heap.size + 1 + 1, 1, none⟩ = some (.slice C.aA C.nA C.cA) := cell_of_block ZC53.out 1 (by simp)
            have cC2 : Wj.cell? ⟨w.heap.size + 1 + 1, 2, none⟩ = some (.slice C.aW C.nW C.cW) := cell_of_block ZC53.out 2 (by simp)
            have lX := (Array.getElem?_eq_some_iff.1 ZX54.out).1
            have cX0 : Wj.cell? ⟨w.heap.size + 1 + 1 + 1, 0, none⟩ = some (.int .i64 x.day) := cell_of_block ZX54.out 0 (by simp)
            have cX1 : Wj.cell? ⟨w.heap.size + 1 + 1 + 1, 1, none⟩ = some (.int .i64 x.alo) := cell_of_block ZX54.out 1 (by simp)
            have cX2 : Wj.cell? ⟨w.heap.size + 1 + 1 + 1, 2, none⟩ = some (.int .i64 x.ahi) := cell_of_block ZX54.out 2 (by simp)
            have cX3 : Wj.cell? ⟨w.heap.size + 1 + 1 + 1, 3, none⟩ = some (.int .i64 x.wlo) := cell_of_block ZX54.out 3 (by simp)
            have cX4 : Wj.cell? ⟨w.heap.size + 1 + 1 + 1, 4, none⟩ = some (.int .i64 x.whi) := cell_of_block ZX54.out 4 (by simp)
            have lG := (Array.getElem?_eq_some_iff.1 ZG58.out).1
            have cG0 : Wj.cell? ⟨Wi.heap.size, 0, none⟩ = some (.int .i64 day) := cell_of_block ZG58.out 0 (by simp)
            have cG1 : Wj.cell? ⟨Wi.heap.size, 1, none⟩ = some (.int .i64 (1000 * mvl)) := cell_of_block ZG58.out 1 (by simp)
            have cG2 : Wj.cell? ⟨Wi.heap.size, 2, none⟩ = some (.int .i64 (1000 * mvh)) := cell_of_block ZG58.out 2 (by simp)
            have cG3 : Wj.cell? ⟨Wi.heap.size, 3, none⟩ = some (.int .i64 msl) := cell_of_block ZG58.out 3 (by simp)
            have cG4 : Wj.cell? ⟨Wi.heap.size, 4, none⟩ = some (.int .i64 msh) := cell_of_block ZG58.out 4 (by simp)
            go_wp2_with fail
            refine (SO.out _ LOW57.out).mono ?_
            rintro e wk ⟨rfl, hbk⟩
            clear lC cC0 cC1 cC2 lX cX0 cX1 cX2 cX3 cX4 lG cG0 cG1 cG2 cG3 cG4
            have ZC59 := Lib.hid ((hbk.block _ (Array.getElem?_eq_some_iff.1 ZC53.out).1).trans ZC53.out)
            have ZX60 := Lib.hid ((hbk.block _ (Array.getElem?_eq_some_iff.1 ZX54.out).1).trans ZX54.out)
            have ZV61 := Lib.hid ((hbk.block _ (Array.getElem?_eq_some_iff.1 ZV55.out).1).trans ZV55.out)
            have ZW62 := Lib.hid ((hbk.block _ (Array.getElem?_eq_some_iff.1 ZW56.out).1).trans ZW56.out)
            have ZG63 := Lib.hid ((hbk.block _ (Array.getElem?_eq_some_iff.1 ZG58.out).1).trans ZG58.out)
            have LOW64 := Lib.hid (thru hbk LOW57.out)
            clear hbk ZC53 ZX54 ZV55 ZW56 ZG58 LOW57
            have lC := (Array.getElem?_eq_some_iff.1 ZC59.out).1
            have cC0 : wk.cell? ⟨w.heap.size + 1 + 1, 0, none⟩ = some (.int .i64 C.days) := cell_of_block ZC59.out 0 (by simp)
            have cC1 : wk.cell? ⟨w.heap.size + 1 + 1, 1, none⟩ = some (.slice C.aA C.nA C.cA) := cell_of_block ZC59.out 1 (by simp)
            have cC2 : wk.cell? ⟨w.heap.size + 1 + 1, 2, none⟩ = some (.slice C.aW C.nW C.cW) := cell_of_block ZC59.out 2 (by simp)
            have lX := (Array.getElem?_eq_some_iff.1 ZX60.out).1
            have cX0 : wk.cell? ⟨w.heap.size + 1 + 1 + 1, 0, none⟩ = some (.int .i64 x.day) := cell_of_block ZX60.out 0 (by simp)
            have cX1 : wk.cell? ⟨w.heap.size + 1 + 1 + 1, 1, none⟩ = some (.int .i64 x.alo) := cell_of_block ZX60.out 1 (by simp)
            have cX2 : wk.cell? ⟨w.heap.size + 1 + 1 + 1, 2, none⟩ = some (.int .i64 x.ahi) := cell_of_block ZX60.out 2 (by simp)
            have cX3 : wk.cell? ⟨w.heap.size + 1 + 1 + 1, 3, none⟩ = some (.int .i64 x.wlo) := cell_of_block ZX60.out 3 (by simp)
            have cX4 : wk.cell? ⟨w.heap.size + 1 + 1 + 1, 4, none⟩ = some (.int .i64 x.whi) := cell_of_block ZX60.out 4 (by simp)
            have lG := (Array.getElem?_eq_some_iff.1 ZG63.out).1
            have cG0 : wk.cell? ⟨Wi.heap.size, 0, none⟩ = some (.int .i64 day) := cell_of_block ZG63.out 0 (by simp)
            have cG1 : wk.cell? ⟨Wi.heap.size, 1, none⟩ = some (.int .i64 (1000 * mvl)) := cell_of_block ZG63.out 1 (by simp)
            have cG2 : wk.cell? ⟨Wi.heap.size, 2, none⟩ = some (.int .i64 (1000 * mvh)) := cell_of_block ZG63.out 2 (by simp)
            have cG3 : wk.cell? ⟨Wi.heap.size, 3, none⟩ = some (.int .i64 msl) := cell_of_block ZG63.out 3 (by simp)
            have cG4 : wk.cell? ⟨Wi.heap.size, 4, none⟩ = some (.int .i64 msh) := cell_of_block ZG63.out 4 (by simp)
            go_wp2_with fail
            refine (MO.out _ LOW64.out).mono ?_
            rintro e wl ⟨rfl, hbl⟩
            clear lC cC0 cC1 cC2 lX cX0 cX1 cX2 cX3 cX4 lG cG0 cG1 cG2 cG3 cG4
            have ZC65 := Lib.hid ((hbl.block _ (Array.getElem?_eq_some_iff.1 ZC59.out).1).trans ZC59.out)
            have ZX66 := Lib.hid ((hbl.block _ (Array.getElem?_eq_some_iff.1 ZX60.out).1).trans ZX60.out)
            have ZV67 := Lib.hid ((hbl.block _ (Array.getElem?_eq_some_iff.1 ZV61.out).1).trans ZV61.out)
            have ZW68 := Lib.hid ((hbl.block _ (Array.getElem?_eq_some_iff.1 ZW62.out).1).trans ZW62.out)
            have ZG69 := Lib.hid ((hbl.block _ (Array.getElem?_eq_some_iff.1 ZG63.out).1).trans ZG63.out)
            have LOW70 := Lib.hid (thru hbl LOW64.out)
            clear hbl ZC59 ZX60 ZV61 ZW62 ZG63 LOW64
            go_upto_region 47 with (fail)
            obtain ⟨Wm, hWm⟩ : ∃ V, (wl).alloc (.cells #[.int .i64 y.day, .int .i64 y.alo, .int .i64 y.ahi, .int .i64 y.wlo, .int .i64 y.whi] 32) = V := ⟨_, rfl⟩
            have bWm : Below wl.heap.size wl Wm := by rw [← hWm]; exact below_alloc _ _
            have zWm_Y : Wm.heap[wl.heap.size]? = some (.cells #[.int .i64 y.day, .int .i64 y.alo, .int .i64 y.ahi, .int .i64 y.wlo, .int .i64 y.whi] 32 (0, 0)) := by rw [← hWm]; exact alloc_at rfl
            rw [hWm]
            clear hWm
            have ZC71 := Lib.hid ((bWm.block _ (Array.getElem?_eq_some_iff.1 ZC65.out).1).trans ZC65.out)
            have ZX72 := Lib.hid ((bWm.block _ (Array.getElem?_eq_some_iff.1 ZX66.out).1).trans ZX66.out)
            have ZV73 := Lib.hid ((bWm.block _ (Array.getElem?_eq_some_iff.1 ZV67.out).1).trans ZV67.out)
            have ZW74 := Lib.hid ((bWm.block _ (Array.getElem?_eq_some_iff.1 ZW68.out).1).trans ZW68.out)
            have ZG75 := Lib.hid ((bWm.block _ (Array.getElem?_eq_some_iff.1 ZG69.out).1).trans ZG69.out)
            have LOW76 := Lib.hid (thru bWm LOW70.out)
            clear bWm ZC65 ZX66 ZV67 ZW68 ZG69 LOW70
            have ZY77 := Lib.hid zWm_Y
            clear zWm_Y
            have lY := (Array.getElem?_eq_some_iff.1 ZY77.out).1
            have cY0 : Wm.cell? ⟨wl.heap.size, 0, none⟩ = some (.int .i64 y.day) := cell_of_block ZY77.out 0 (by simp)
            have cY1 : Wm.cell? ⟨wl.heap.size, 1, none⟩ = some (.int .i64 y.alo) := cell_of_block ZY77.out 1 (by simp)
            have cY2 : Wm.cell? ⟨wl.heap.size, 2, none⟩ = some (.int .i64 y.ahi) := cell_of_block ZY77.out 2 (by simp)
            have cY3 : Wm.cell? ⟨wl.heap.size, 3, none⟩ = some (.int .i64 y.wlo) := cell_of_block ZY77.out 3 (by simp)
            have cY4 : Wm.cell? ⟨wl.heap.size, 4, none⟩ = some (.int .i64 y.whi) := cell_of_block ZY77.out 4 (by simp)
            have g1 : decide (y.alo ≤ a) = true := by simp; omega
            have g2 : decide (a ≤ y.ahi) = true := by simp; omega
            have g3 : decide (y.wlo ≤ b) = true := by simp; omega
            have g4 : decide (b ≤ y.whi) = true := by simp; omega
            go_wp2_with fail
            refine (L7.awake_any _).mono ?_
            rintro e w99 ⟨rfl, hb99⟩
            go_wp2_with fail
            go_ret
            exact ⟨rfl, thru hb99 (LOW76.out)⟩
end Go.Proofs.YtjgnafhbeekebaaGreat
