/- The law StrengthBack returns true. No conditions beyond each theorem's own. -/
import Derived.Test.YtohcopdfdmjhnaaUc
import Derived.Test.YtohcopdfdmjhnaaUd
import Derived.Test.YtohcopdfdmjhnaaTd
import Derived.Test.YtohcopdfdmjhnaaSf
set_option linter.unusedVariables false
set_option linter.unusedSimpArgs false
set_option linter.unusedSectionVars false
set_option linter.constructorNameAsVariable false
namespace Go.Proofs.Ytohcopdfdmjhnaa.L1
open Go.RowKit
open Go.Proofs.Ytohcopdfdmjhnaa

attribute [local go_sem] gw_cell gw_frozen gw_size

theorem infoSpn : (Try.prog.info? 27).map (fun i => (i.zero, i.size)) = some (some (.agg #[.int .i64 0, .int .i64 0]), 2) := by kernel_rfl

set_option maxHeartbeats 400000 in
theorem has_any (lo hi n : Int) (w : World) :
    Calls Try.prog 24 #[.agg #[.int .i64 lo, .int .i64 hi], .int .i64 n] w fun e w' => e = .returned (.bool (inB n lo hi)) ∧ Below w.heap.size w w' := by
  unfold inB
  obtain ⟨W1, hW1⟩ : ∃ W1, w.alloc (.cells #[.int .i64 lo, .int .i64 hi] 27) = W1 := ⟨_, rfl⟩
  have hBc : Below w.heap.size w W1 := by rw [← hW1]; exact below_alloc _ _
  have zc0 : W1.heap[w.heap.size]? = some (.cells #[.int .i64 lo, .int .i64 hi] 27 (0, 0)) := by rw [← hW1]; exact alloc_at rfl
  have c00 : W1.cell? ⟨w.heap.size, 0, none⟩ = some (.int .i64 lo) := cell_of_block zc0 0 (by simp)
  have c01 : W1.cell? ⟨w.heap.size, 1, none⟩ = some (.int .i64 hi) := cell_of_block zc0 1 (by simp)
  have lc0 := (Array.getElem?_eq_some_iff.1 zc0).1
  clear zc0
  have HBc := Lib.hid hBc; clear hBc
  have HWc := Lib.hid hW1; clear hW1
  by_cases h : lo ≤ n
  · have h1 : decide (lo ≤ n) = true := by simp [h]
    rw [h1, Bool.true_and]
    clear h
    go_enter Try.func24, Try.ntmps24
    go_upto_region 1 with (fail)
    rw [HWc.out]
    go_wp2_with fail
    go_ret
    exact ⟨rfl, HBc.out⟩
  · have h1 : decide (lo ≤ n) = false := by simp; omega
    rw [h1, Bool.false_and]
    clear h
    go_enter Try.func24, Try.ntmps24
    go_upto_region 1 with (fail)
    rw [HWc.out]
    go_wp2_with fail
    go_ret
    exact ⟨rfl, HBc.out⟩

set_option maxRecDepth 100000 in
set_option maxHeartbeats 4000000 in
theorem back_any (t : Tab) (tlo thi u v off : Int) (w : World) (hI : t.In w) (hL : t.Lens) (u0 : 0 ≤ u) (u1 : u ≤ 4294967295) (v0 : 0 ≤ v) (v1 : v ≤ 4294967295) (o0 : 0 ≤ off) (o1 : off ≤ 65535) :
    Calls Try.prog 6 #[t.val, .agg #[.int .i64 tlo, .int .i64 thi], .int .u32 u, .int .u32 v, .int .u16 off] w fun e w' => e = .returned (.bool true) ∧ Below w.heap.size w w' := by
  obtain ⟨W1, hW1⟩ : ∃ W1, (w.alloc (.cells #[.slice t.aT t.nT t.cT, .slice t.aS t.nS t.cS, .slice t.H.a t.H.n t.H.c, .slice t.R.a t.R.n t.R.c] 25)).alloc (.cells #[.int .i64 tlo, .int .i64 thi] 27) = W1 := ⟨_, rfl⟩
  have hBc : Below w.heap.size w W1 := by rw [← hW1]; exact (below_alloc _ _).alloc (by simp) _
  have zc0 : W1.heap[w.heap.size]? = some (.cells #[.slice t.aT t.nT t.cT, .slice t.aS t.nS t.cS, .slice t.H.a t.H.n t.H.c, .slice t.R.a t.R.n t.R.c] 25 (0, 0)) := by rw [← hW1]; exact alloc_keep (alloc_at rfl)
  have zc1 : W1.heap[w.heap.size + 1]? = some (.cells #[.int .i64 tlo, .int .i64 thi] 27 (0, 0)) := by rw [← hW1]; exact alloc_at (by simp)
  have c00 : W1.cell? ⟨w.heap.size, 0, none⟩ = some (.slice t.aT t.nT t.cT) := cell_of_block zc0 0 (by simp)
  have c01 : W1.cell? ⟨w.heap.size, 1, none⟩ = some (.slice t.aS t.nS t.cS) := cell_of_block zc0 1 (by simp)
  have c02 : W1.cell? ⟨w.heap.size, 2, none⟩ = some (.slice t.H.a t.H.n t.H.c) := cell_of_block zc0 2 (by simp)
  have c03 : W1.cell? ⟨w.heap.size, 3, none⟩ = some (.slice t.R.a t.R.n t.R.c) := cell_of_block zc0 3 (by simp)
  have c10 : W1.cell? ⟨w.heap.size + 1, 0, none⟩ = some (.int .i64 tlo) := cell_of_block zc1 0 (by simp)
  have c11 : W1.cell? ⟨w.heap.size + 1, 1, none⟩ = some (.int .i64 thi) := cell_of_block zc1 1 (by simp)
  have lc0 := (Array.getElem?_eq_some_iff.1 zc0).1
  have lc1 := (Array.getElem?_eq_some_iff.1 zc1).1
  have Zc0 := Lib.hid zc0
  have Zc1 := Lib.hid zc1
  clear zc0 zc1
  have HBc := Lib.hid hBc; clear hBc
  have HWc := Lib.hid hW1; clear hW1
  have I1 := Lib.hid (hI.below HBc.out)
  have GR := Lib.hid (great_any t W1 I1.out hL)
  unfold Tab.val at GR ⊢
  clear hI
  go_enter Try.func6, Try.ntmps6
  go_upto_region 1 with (fail)
  rw [HWc.out]
  go_wp2_with fail
  refine GR.out.mono ?_
  rintro e w1 ⟨bg, rfl, hsm, hb⟩
  obtain ⟨z0, rfl⟩ := gw_of_below hb
  clear hb GR
  cases bg with
  | true =>
    go_wp2_with fail
    refine (Calls.gw_of (alive_any _)).mono ?_
    rintro e w1 ⟨rfl, z1, rfl⟩
    go_wp2_with fail
    go_ret
    exact ⟨rfl, HBc.out.gw z1⟩
  | false =>
    have hf := (hsm rfl).fits
    clear hsm
    cases hok : t.okB with
    | false =>
      have TB' := Lib.hid (fun W (hb : Below W1.heap.size W1 W) => rTable_b (b := false) t W (I1.out.below hb) hf hok)
      unfold Tab.val at TB'
      go_wp2_with fail
      refine (Calls.gw_of (TB'.out _ (below_gw W1 z0))).mono ?_
      rintro e w1 ⟨rfl, z1, rfl⟩
      go_wp2_with fail
      refine (Calls.gw_of (alive_any _)).mono ?_
      rintro e w1 ⟨rfl, z2, rfl⟩
      go_wp2_with fail
      go_ret
      exact ⟨rfl, HBc.out.gw z2⟩
    | true =>
      have TB' := Lib.hid (fun W (hb : Below W1.heap.size W1 W) => rTable_b (b := true) t W (I1.out.below hb) hf hok)
      have g := Tab.good hok
      have t2 := g.ok.t2
      have t32 := g.ok.t32
      have s2 := g.ok.s2
      have s32 := g.ok.s32
      simp only [Tab.tb] at t2 t32 s2 s32
      cases hT : t.fitT tlo thi with
      | false =>
        have TE' := Lib.hid (fun W (hb : Below W1.heap.size W1 W) => rTemp_b (b := false) t tlo thi W (I1.out.below hb) t2 t32 hT)
        unfold Tab.val at TB' TE'
        go_wp2_with fail
        refine (Calls.gw_of (TB'.out _ (below_gw W1 z0))).mono ?_
        rintro e w1 ⟨rfl, z1, rfl⟩
        go_wp2_with fail
        refine (Calls.gw_of (TE'.out _ (below_gw W1 z1))).mono ?_
        rintro e w1 ⟨rfl, z2, rfl⟩
        go_wp2_with fail
        refine (Calls.gw_of (alive_any _)).mono ?_
        rintro e w1 ⟨rfl, z3, rfl⟩
        go_wp2_with fail
        go_ret
        exact ⟨rfl, HBc.out.gw z3⟩
      | true =>
        have TE' := Lib.hid (fun W (hb : Below W1.heap.size W1 W) => rTemp_b (b := true) t tlo thi W (I1.out.below hb) t2 t32 hT)
        have ft := Tab.fitT_t hT
        have fta := ft.a
        have ftb := ft.b
        have ftc := ft.c
        simp only [Tab.tb] at fta ftb ftc
        have T0 := g.ok.bT 0 (by simp only [Tab.tb]; omega)
        have T1 := g.ok.bT (t.nT - 1) (by simp only [Tab.tb]; omega)
        have S0 := g.ok.bS 0 (by simp only [Tab.tb]; omega)
        have S1 := g.ok.bS (t.nS - 1) (by simp only [Tab.tb]; omega)
        have S2 := g.ok.rS.le 0 (t.nS - 1) (by omega) (by simp only [Tab.tb]; omega)
        simp only [Tab.tb] at T0 T1 S0 S1 S2
        rcases I1.out.iS with h | ⟨bS, oS, ea, lS, hc⟩
        · omega
        have x1 := hc 0 (by omega)
        have x2 := hc (t.nS - 1) (by omega)
        rw [Nat.add_zero] at x1
        clear hc
        have e1 : ((t.nS : Int) - 1).toNat = t.nS - 1 := by omega
        obtain ⟨y, hy⟩ : ∃ y, innerI (t.S 0) (t.S (t.nS - 1)) u = y := ⟨_, rfl⟩
        obtain ⟨x, hx⟩ : ∃ x, innerI tlo thi v = x := ⟨_, rfl⟩
        have yr := innerI_range (b := u) S2
        have xr := innerI_range (b := v) ftb
        rw [hy] at yr
        rw [hx] at xr
        have IY := Lib.hid (fun W => inner_any (t.S 0) (t.S (t.nS - 1)) u W (by omega) S2 (by omega) u0 u1)
        have IX' := Lib.hid (fun W (_ : Below W1.heap.size W1 W) => inner_any tlo thi v W (by omega) ftb (by omega) v0 v1)
        simp only [hy] at IY
        simp only [hx] at IX'
        have vr := hval_range g (x := x) (y := y) (by omega) (by omega) yr.1 yr.2
        have vf := (g.fit (x := x) (y := y) (g.rowsH I1.out) ⟨by simp only [Tab.tb]; omega, Int.le_refl _, by simp only [Tab.tb]; omega⟩ ⟨yr.1, Int.le_refl _, yr.2⟩)
        have vd := hval_d g t.H x y
        have fc := flr_le_cei vd
        obtain ⟨s1, s2, s3, s4⟩ := str_true g hok hT xr.1 xr.2 yr.1 yr.2 (lo := (t.valM t.H x y).flr - off) (hi := (t.valM t.H x y).cei + off) (by omega) (by omega)
        have hFS := Tab.t_fitS s4
        have b1 := Tab.shE_ok hok hFS hT
        have b2 := flr_mono (low_d g t.H (t.strL ((t.valM t.H x y).flr - off) ((t.valM t.H x y).cei + off) tlo thi) (t.strH ((t.valM t.H x y).flr - off) ((t.valM t.H x y).cei + off) tlo thi) tlo thi) vd (low_all g t.H ft s4 xr.1 xr.2 s2 s3)
        have b3 := cei_mono vd (high_d g t.H (t.strL ((t.valM t.H x y).flr - off) ((t.valM t.H x y).cei + off) tlo thi) (t.strH ((t.valM t.H x y).flr - off) ((t.valM t.H x y).cei + off) tlo thi) tlo thi) (high_all g t.H ft s4 xr.1 xr.2 s2 s3)
        have hFY := Tab.t_fitS (t := t) (lo := y) (hi := y) ⟨yr.1, Int.le_refl _, yr.2⟩
        have hFX := Tab.t_fitT (t := t) (lo := x) (hi := x) ⟨by simp only [Tab.tb]; omega, Int.le_refl _, by simp only [Tab.tb]; omega⟩
        have c1 := Tab.shE_ok hok hFY hFX
        have c2 : t.shLo y y x x = (t.valM t.H x y).flr := by unfold Tab.shLo; rw [if_pos c1, low_point g]
        have c3 : t.shHi y y x x = (t.valM t.H x y).cei := by unfold Tab.shHi; rw [if_pos c1, high_point g]
        have VA' := Lib.hid (fun W (hb : Below W1.heap.size W1 W) => rValue_any t g t.H x y W (I1.out.below hb) (g.rowsH (I1.out.below hb)) (Tab.fitT_t hFX) (Tab.fitS_t hFY))
        have ST' := Lib.hid (fun W (hb : Below W1.heap.size W1 W) => Strength_any t ((t.valM t.H x y).flr - off) ((t.valM t.H x y).cei + off) tlo thi W (I1.out.below hb) hf)
        have d2 : t.shLo (t.strL ((t.valM t.H x y).flr - off) ((t.valM t.H x y).cei + off) tlo thi) (t.strH ((t.valM t.H x y).flr - off) ((t.valM t.H x y).cei + off) tlo thi) tlo thi ≤ (t.valM t.H x y).flr := by unfold Tab.shLo; rw [if_pos b1]; exact b2
        have d3 : (t.valM t.H x y).cei ≤ t.shHi (t.strL ((t.valM t.H x y).flr - off) ((t.valM t.H x y).cei + off) tlo thi) (t.strH ((t.valM t.H x y).flr - off) ((t.valM t.H x y).cei + off) tlo thi) tlo thi := by unfold Tab.shHi; rw [if_pos b1]; exact b3
        have SB' := Lib.hid (fun W (hb : Below W1.heap.size W1 W) => Shown_any t (t.strL ((t.valM t.H x y).flr - off) ((t.valM t.H x y).cei + off) tlo thi) (t.strH ((t.valM t.H x y).flr - off) ((t.valM t.H x y).cei + off) tlo thi) tlo thi W (I1.out.below hb) hf)
        have SC' := Lib.hid (fun W (hb : Below W1.heap.size W1 W) => Shown_any t y y x x W (I1.out.below hb) hf)
        have FL : Hid (∀ W, Calls Try.prog 31 #[.agg #[.int .i64 (t.valM t.H x y).n, .int .i64 (t.valM t.H x y).d]] W fun e w' => e = .returned (.int .i64 (t.valM t.H x y).flr) ∧ Below W.heap.size W w') := Lib.hid (fun W => rfloor_any (t.valM t.H x y).n (t.valM t.H x y).d W vf.n1 vf.n2 vf.d1)
        have CE : Hid (∀ W, Calls Try.prog 32 #[.agg #[.int .i64 (t.valM t.H x y).n, .int .i64 (t.valM t.H x y).d]] W fun e w' => e = .returned (.int .i64 (t.valM t.H x y).cei) ∧ Below W.heap.size W w') := Lib.hid (fun W => rceil_any (t.valM t.H x y).n (t.valM t.H x y).d W vf.n1 vf.n2 vf.d1)
        simp only [s1] at ST'
        simp only [b1] at SB'
        simp only [c1, c2, c3] at SC'
        unfold Fr.val at VA'
        have HAS : Hid (∀ W, Calls Try.prog 24 #[.agg #[.int .i64 (t.strL ((t.valM t.H x y).flr - off) ((t.valM t.H x y).cei + off) tlo thi), .int .i64 (t.strH ((t.valM t.H x y).flr - off) ((t.valM t.H x y).cei + off) tlo thi)], .int .i64 y] W fun e w' => e = .returned (.bool true) ∧ Below W.heap.size W w') := Lib.hid (fun W => by have h := has_any (t.strL ((t.valM t.H x y).flr - off) ((t.valM t.H x y).cei + off) tlo thi) (t.strH ((t.valM t.H x y).flr - off) ((t.valM t.H x y).cei + off) tlo thi) y W; rwa [inB_t.2 ⟨s2, s3⟩] at h)
        clear s1 s2 s3 s4 hFS b1 b2 b3 hFY hFX c1 c2 c3 vf vd g hok hT ft hy hx hL hf
        generalize t.shLo (t.strL ((t.valM t.H x y).flr - off) ((t.valM t.H x y).cei + off) tlo thi) (t.strH ((t.valM t.H x y).flr - off) ((t.valM t.H x y).cei + off) tlo thi) tlo thi = bl at *
        generalize t.shHi (t.strL ((t.valM t.H x y).flr - off) ((t.valM t.H x y).cei + off) tlo thi) (t.strH ((t.valM t.H x y).flr - off) ((t.valM t.H x y).cei + off) tlo thi) tlo thi = bh at *
        generalize t.strL ((t.valM t.H x y).flr - off) ((t.valM t.H x y).cei + off) tlo thi = al at *
        generalize t.strH ((t.valM t.H x y).flr - off) ((t.valM t.H x y).cei + off) tlo thi = ah at *
        generalize (t.valM t.H x y).flr = p at *
        generalize (t.valM t.H x y).cei = q at *
        generalize (t.valM t.H x y).n = vn at *
        generalize (t.valM t.H x y).d = vd at *
        generalize t.S 0 = s0 at *
        generalize t.S (t.nS - 1) = s1 at *
        have EA := Lib.hid ea
        clear ea
        unfold Tab.val at TB' TE' VA' ST' SB' SC'
        unfold Rows.val at VA'
        have g1 : decide (bl ≤ p) = true := by simp [d2]
        have g2 : decide (q ≤ bh) = true := by simp [d3]
        go_wp2_with fail
        refine (Calls.gw_of (TB'.out _ (below_gw W1 z0))).mono ?_
        rintro e w1 ⟨rfl, z1, rfl⟩
        go_wp2_with fail
        refine (Calls.gw_of (TE'.out _ (below_gw W1 z1))).mono ?_
        rintro e w1 ⟨rfl, z2, rfl⟩
        go_upto_region 3 with (fail)
        rw [EA.out] at c01
        refine wp_region_gw2 (by kernel_rfl) (by kernel_rfl) ?_
        repeat (go_big_quiet_step ((go_at_call 23; with_reducible exact Calls.gw_of (IY.out _))))
        refine wpQuiet_nil ?_
        rintro _ ⟨z3, rfl⟩
        clear x1 x2 e1 lS
        clear c01
        have c01 : W1.cell? ⟨w.heap.size, 1, none⟩ = some (.slice t.aS t.nS t.cS) := cell_of_block Zc0.out 1 (by simp)
        go_wp2_with fail
        refine (Calls.gw_of (IX'.out _ (below_gw W1 z3))).mono ?_
        rintro e w1 ⟨rfl, z4, rfl⟩
        go_wp2_with fail
        refine (Calls.gw_of (VA'.out _ (below_gw W1 z4))).mono ?_
        rintro e w1 ⟨rfl, z5, rfl⟩
        go_upto_region 6 with (fail)
        obtain ⟨W2, hW2⟩ : ∃ W2, ((gw W1 z5)).alloc (.cells #[.int .i64 vn, .int .i64 vd] 35) = W2 := ⟨_, rfl⟩
        have hbW2 : Below W1.heap.size W1 W2 := by rw [← hW2]; exact (below_gw W1 z5).alloc (by simp [gw_size]) _
        have ZtW2 := Lib.hid ((hbW2.block _ (Array.getElem?_eq_some_iff.1 Zc0.out).1).trans Zc0.out)
        have ZmW2 := Lib.hid ((hbW2.block _ (Array.getElem?_eq_some_iff.1 Zc1.out).1).trans Zc1.out)
        have zfW2 : W2.heap[W1.heap.size + z5.bs.size]? = some (.cells #[.int .i64 vn, .int .i64 vd] 35 (0, 0)) := by rw [← hW2]; exact alloc_at (by simp [gw_size])
        have ZfW2 := Lib.hid zfW2; clear zfW2
        have HBW2 := Lib.hid (thru hbW2 HBc.out)
        have SBW2 := Lib.hid hbW2; clear hbW2
        have HWW2 := Lib.hid hW2; clear hW2
        rw [HWW2.out]
        clear c00 c01 c02 c03 c10 c11
        have S2 := Lib.hid SBW2.out
        have ef0W2 : W2.cell? ⟨W1.heap.size + z5.bs.size, 0, none⟩ = some (.int .i64 vn) := cell_of_block ZfW2.out 0 (by simp)
        have ef1W2 : W2.cell? ⟨W1.heap.size + z5.bs.size, 1, none⟩ = some (.int .i64 vd) := cell_of_block ZfW2.out 1 (by simp)
        have lfW2 := (Array.getElem?_eq_some_iff.1 ZfW2.out).1
        refine wp_region_box1 [true, true, true, true, true, true, true, true, true, true, true, false, false] 11 12 #[.int .i64 0, .int .i64 0] #[.int .i64 (p - off), .int .i64 (q + off)] (by kernel_rfl) rfl rfl rfl (by kernel_rfl) rfl (by kernel_rfl) infoSpn rfl rfl (by simp [Value.oneCell']) ?_
        apply Exists.intro
        refine ⟨fun S hS hx => ?_, ?_, ?_⟩
        · obtain ⟨x0, hx0⟩ := hx
          haveI : Nonempty (GrewS W2 S) := ⟨⟨x0, hx0⟩⟩
          simp only [pickM]
          repeat (go_big_quiet_step (first | (go_at_call 31; with_reducible exact Calls.gwS hS (FL.out _)) | (go_at_call 32; with_reducible exact Calls.gwS hS (CE.out _))))
          exact wpQuiet_nil rfl
        · rfl
        · intro Bs vs hBws hblk hbb
          have HKs := Lib.hid hblk; clear hblk
          have SBvs := Lib.hid (hbb)
          have Ztvs := Lib.hid ((SBvs.out.block _ (Array.getElem?_eq_some_iff.1 ZtW2.out).1).trans ZtW2.out)
          have Zmvs := Lib.hid ((SBvs.out.block _ (Array.getElem?_eq_some_iff.1 ZmW2.out).1).trans ZmW2.out)
          have Zfvs := Lib.hid ((SBvs.out.block _ (Array.getElem?_eq_some_iff.1 ZfW2.out).1).trans ZfW2.out)
          have HBvs := Lib.hid (thru SBvs.out HBW2.out)
          have Svs := Lib.hid (S2.out.trans (SBvs.out.mono S2.out.size))
          clear hbb
          go_upto_region 7 with (fail)
          simp only [Act.put, List.setIfInBounds_toArray, List.set_cons_succ, List.set_cons_zero]
          have et0vs : vs.cell? ⟨w.heap.size, 0, none⟩ = some (.slice t.aT t.nT t.cT) := cell_of_block Ztvs.out 0 (by simp)
          have et1vs : vs.cell? ⟨w.heap.size, 1, none⟩ = some (.slice t.aS t.nS t.cS) := cell_of_block Ztvs.out 1 (by simp)
          have et2vs : vs.cell? ⟨w.heap.size, 2, none⟩ = some (.slice t.H.a t.H.n t.H.c) := cell_of_block Ztvs.out 2 (by simp)
          have et3vs : vs.cell? ⟨w.heap.size, 3, none⟩ = some (.slice t.R.a t.R.n t.R.c) := cell_of_block Ztvs.out 3 (by simp)
          have ltvs := (Array.getElem?_eq_some_iff.1 Ztvs.out).1
          have em0vs : vs.cell? ⟨w.heap.size + 1, 0, none⟩ = some (.int .i64 tlo) := cell_of_block Zmvs.out 0 (by simp)
          have em1vs : vs.cell? ⟨w.heap.size + 1, 1, none⟩ = some (.int .i64 thi) := cell_of_block Zmvs.out 1 (by simp)
          have lmvs := (Array.getElem?_eq_some_iff.1 Zmvs.out).1
          have es0vs : vs.cell? ⟨Bs, 0, none⟩ = some (.int .i64 (p - off)) := cell_of_block HKs.out 0 (by simp)
          have es1vs : vs.cell? ⟨Bs, 1, none⟩ = some (.int .i64 (q + off)) := cell_of_block HKs.out 1 (by simp)
          have lsvs := (Array.getElem?_eq_some_iff.1 HKs.out).1
          go_wp2_with fail
          refine (Calls.grown (ST'.out _ (Svs.out))).mono ?_
          rintro e w1 ⟨rfl, z6, rfl⟩
          go_upto_region 8 with (fail)
          obtain ⟨W3, hW3⟩ : ∃ W3, ((gw vs z6)).alloc (.cells #[.int .i64 al, .int .i64 ah] 27) = W3 := ⟨_, rfl⟩
          have hbW3 : Below vs.heap.size vs W3 := by rw [← hW3]; exact (below_gw vs z6).alloc (by simp [gw_size]) _
          have ZtW3 := Lib.hid ((hbW3.block _ (Array.getElem?_eq_some_iff.1 Ztvs.out).1).trans Ztvs.out)
          have ZmW3 := Lib.hid ((hbW3.block _ (Array.getElem?_eq_some_iff.1 Zmvs.out).1).trans Zmvs.out)
          have ZfW3 := Lib.hid ((hbW3.block _ (Array.getElem?_eq_some_iff.1 Zfvs.out).1).trans Zfvs.out)
          have ZsW3 := Lib.hid ((hbW3.block _ (Array.getElem?_eq_some_iff.1 HKs.out).1).trans HKs.out)
          have zaW3 : W3.heap[vs.heap.size + z6.bs.size]? = some (.cells #[.int .i64 al, .int .i64 ah] 27 (0, 0)) := by rw [← hW3]; exact alloc_at (by simp [gw_size])
          have ZaW3 := Lib.hid zaW3; clear zaW3
          have HBW3 := Lib.hid (thru hbW3 HBvs.out)
          have SBW3 := Lib.hid hbW3; clear hbW3
          have HWW3 := Lib.hid hW3; clear hW3
          rw [HWW3.out]
          clear es0vs es1vs et0vs et1vs et2vs et3vs em0vs em1vs
          have S3 := Lib.hid (Svs.out.trans (SBW3.out.mono Svs.out.size))
          have et0W3 : W3.cell? ⟨w.heap.size, 0, none⟩ = some (.slice t.aT t.nT t.cT) := cell_of_block ZtW3.out 0 (by simp)
          have et1W3 : W3.cell? ⟨w.heap.size, 1, none⟩ = some (.slice t.aS t.nS t.cS) := cell_of_block ZtW3.out 1 (by simp)
          have et2W3 : W3.cell? ⟨w.heap.size, 2, none⟩ = some (.slice t.H.a t.H.n t.H.c) := cell_of_block ZtW3.out 2 (by simp)
          have et3W3 : W3.cell? ⟨w.heap.size, 3, none⟩ = some (.slice t.R.a t.R.n t.R.c) := cell_of_block ZtW3.out 3 (by simp)
          have ltW3 := (Array.getElem?_eq_some_iff.1 ZtW3.out).1
          have em0W3 : W3.cell? ⟨w.heap.size + 1, 0, none⟩ = some (.int .i64 tlo) := cell_of_block ZmW3.out 0 (by simp)
          have em1W3 : W3.cell? ⟨w.heap.size + 1, 1, none⟩ = some (.int .i64 thi) := cell_of_block ZmW3.out 1 (by simp)
          have lmW3 := (Array.getElem?_eq_some_iff.1 ZmW3.out).1
          have ea0W3 : W3.cell? ⟨vs.heap.size + z6.bs.size, 0, none⟩ = some (.int .i64 al) := cell_of_block ZaW3.out 0 (by simp)
          have ea1W3 : W3.cell? ⟨vs.heap.size + z6.bs.size, 1, none⟩ = some (.int .i64 ah) := cell_of_block ZaW3.out 1 (by simp)
          have laW3 := (Array.getElem?_eq_some_iff.1 ZaW3.out).1
          go_wp2_with fail
          refine (Calls.grown (SB'.out _ (S3.out))).mono ?_
          rintro e w1 ⟨rfl, z7, rfl⟩
          go_upto_region 9 with (fail)
          obtain ⟨W4, hW4⟩ : ∃ W4, ((gw W3 z7)).alloc (.cells #[.int .i64 bl, .int .i64 bh] 27) = W4 := ⟨_, rfl⟩
          have hbW4 : Below W3.heap.size W3 W4 := by rw [← hW4]; exact (below_gw W3 z7).alloc (by simp [gw_size]) _
          have ZtW4 := Lib.hid ((hbW4.block _ (Array.getElem?_eq_some_iff.1 ZtW3.out).1).trans ZtW3.out)
          have ZmW4 := Lib.hid ((hbW4.block _ (Array.getElem?_eq_some_iff.1 ZmW3.out).1).trans ZmW3.out)
          have ZfW4 := Lib.hid ((hbW4.block _ (Array.getElem?_eq_some_iff.1 ZfW3.out).1).trans ZfW3.out)
          have ZsW4 := Lib.hid ((hbW4.block _ (Array.getElem?_eq_some_iff.1 ZsW3.out).1).trans ZsW3.out)
          have ZaW4 := Lib.hid ((hbW4.block _ (Array.getElem?_eq_some_iff.1 ZaW3.out).1).trans ZaW3.out)
          have zbW4 : W4.heap[W3.heap.size + z7.bs.size]? = some (.cells #[.int .i64 bl, .int .i64 bh] 27 (0, 0)) := by rw [← hW4]; exact alloc_at (by simp [gw_size])
          have ZbW4 := Lib.hid zbW4; clear zbW4
          have HBW4 := Lib.hid (thru hbW4 HBW3.out)
          have SBW4 := Lib.hid hbW4; clear hbW4
          have HWW4 := Lib.hid hW4; clear hW4
          rw [HWW4.out]
          clear ea0W3 ea1W3 et0W3 et1W3 et2W3 et3W3 em0W3 em1W3
          have S4 := Lib.hid (S3.out.trans (SBW4.out.mono S3.out.size))
          have et0W4 : W4.cell? ⟨w.heap.size, 0, none⟩ = some (.slice t.aT t.nT t.cT) := cell_of_block ZtW4.out 0 (by simp)
          have et1W4 : W4.cell? ⟨w.heap.size, 1, none⟩ = some (.slice t.aS t.nS t.cS) := cell_of_block ZtW4.out 1 (by simp)
          have et2W4 : W4.cell? ⟨w.heap.size, 2, none⟩ = some (.slice t.H.a t.H.n t.H.c) := cell_of_block ZtW4.out 2 (by simp)
          have et3W4 : W4.cell? ⟨w.heap.size, 3, none⟩ = some (.slice t.R.a t.R.n t.R.c) := cell_of_block ZtW4.out 3 (by simp)
          have ltW4 := (Array.getElem?_eq_some_iff.1 ZtW4.out).1
          refine wp_region_box1 [true, true, true, true, true, true, true, true, true, false, false, true] 9 10 #[.int .i64 0, .int .i64 0] #[.int .i64 p, .int .i64 q] (by kernel_rfl) rfl rfl rfl (by kernel_rfl) rfl (by kernel_rfl) infoSpn rfl rfl (by simp [Value.oneCell']) ?_
          apply Exists.intro
          refine ⟨fun S hS hx => ?_, ?_, ?_⟩
          · obtain ⟨x0, hx0⟩ := hx
            haveI : Nonempty (GrewS W4 S) := ⟨⟨x0, hx0⟩⟩
            simp only [pickM]
            repeat (go_big_quiet_step (first | (go_at_call 33; with_reducible exact Calls.gwS hS (one_any _ _)) | (go_at_call 25; with_reducible exact Calls.gwS hS (SC'.out _ (S4.out.trans ((below_gw W4 _).mono S4.out.size))))))
            exact wpQuiet_nil rfl
          · rfl
          · intro Bc vc hBwc hblk hbb
            have HKc := Lib.hid hblk; clear hblk
            have SBvc := Lib.hid (hbb)
            have Ztvc := Lib.hid ((SBvc.out.block _ (Array.getElem?_eq_some_iff.1 ZtW4.out).1).trans ZtW4.out)
            have Zmvc := Lib.hid ((SBvc.out.block _ (Array.getElem?_eq_some_iff.1 ZmW4.out).1).trans ZmW4.out)
            have Zfvc := Lib.hid ((SBvc.out.block _ (Array.getElem?_eq_some_iff.1 ZfW4.out).1).trans ZfW4.out)
            have Zsvc := Lib.hid ((SBvc.out.block _ (Array.getElem?_eq_some_iff.1 ZsW4.out).1).trans ZsW4.out)
            have Zavc := Lib.hid ((SBvc.out.block _ (Array.getElem?_eq_some_iff.1 ZaW4.out).1).trans ZaW4.out)
            have Zbvc := Lib.hid ((SBvc.out.block _ (Array.getElem?_eq_some_iff.1 ZbW4.out).1).trans ZbW4.out)
            have HBvc := Lib.hid (thru SBvc.out HBW4.out)
            have Svc := Lib.hid (S4.out.trans (SBvc.out.mono S4.out.size))
            clear hbb
            go_upto_region 10 with (fail)
            simp only [Act.put, List.setIfInBounds_toArray, List.set_cons_succ, List.set_cons_zero]
            have ea0vc : vc.cell? ⟨vs.heap.size + z6.bs.size, 0, none⟩ = some (.int .i64 al) := cell_of_block Zavc.out 0 (by simp)
            have ea1vc : vc.cell? ⟨vs.heap.size + z6.bs.size, 1, none⟩ = some (.int .i64 ah) := cell_of_block Zavc.out 1 (by simp)
            have lavc := (Array.getElem?_eq_some_iff.1 Zavc.out).1
            have eb0vc : vc.cell? ⟨W3.heap.size + z7.bs.size, 0, none⟩ = some (.int .i64 bl) := cell_of_block Zbvc.out 0 (by simp)
            have eb1vc : vc.cell? ⟨W3.heap.size + z7.bs.size, 1, none⟩ = some (.int .i64 bh) := cell_of_block Zbvc.out 1 (by simp)
            have lbvc := (Array.getElem?_eq_some_iff.1 Zbvc.out).1
            have ec0vc : vc.cell? ⟨Bc, 0, none⟩ = some (.int .i64 p) := cell_of_block HKc.out 0 (by simp)
            have ec1vc : vc.cell? ⟨Bc, 1, none⟩ = some (.int .i64 q) := cell_of_block HKc.out 1 (by simp)
            have lcvc := (Array.getElem?_eq_some_iff.1 HKc.out).1
            have ef0vc : vc.cell? ⟨W1.heap.size + z5.bs.size, 0, none⟩ = some (.int .i64 vn) := cell_of_block Zfvc.out 0 (by simp)
            have ef1vc : vc.cell? ⟨W1.heap.size + z5.bs.size, 1, none⟩ = some (.int .i64 vd) := cell_of_block Zfvc.out 1 (by simp)
            have lfvc := (Array.getElem?_eq_some_iff.1 Zfvc.out).1
            go_wp2_with fail
            refine (Calls.grown (HAS.out _)).mono ?_
            rintro e w1 ⟨rfl, z8, rfl⟩
            go_upto_region 12 with (fail)
            refine wp_region_gw2 (by kernel_rfl) (by kernel_rfl) ?_
            repeat (go_big_quiet_step (first | (go_at_call 31; with_reducible exact Calls.gw_of (FL.out _)) | (go_at_call 32; with_reducible exact Calls.gw_of (CE.out _)) | (go_at_call 15; with_reducible exact Calls.gw_of (alive_any _))))
            refine wpQuiet_nil ?_
            rintro _ ⟨z9, rfl⟩
            go_wp2_with fail
            go_ret
            exact ⟨rfl, HBvc.out.gw z9⟩
end Go.Proofs.Ytohcopdfdmjhnaa.L1
