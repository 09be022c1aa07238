/- The law StrengthTrue returns true. No conditions beyond each theorem's own. -/
import Derived.Test.YtohcopdfdmjhnaaUc
import Derived.Test.YtohcopdfdmjhnaaUi
import Derived.Test.YtohcopdfdmjhnaaTd
import Derived.Test.YtohcopdfdmjhnaaSf
import Derived.Test.YtohcopdfdmjhnaaAr
set_option linter.unusedVariables false
set_option linter.unusedSimpArgs false
set_option linter.unusedSectionVars false
set_option linter.constructorNameAsVariable false
namespace Go.Proofs.Ytohcopdfdmjhnaa.L1
open Go.RowKit
open Go.Proofs.Ytohcopdfdmjhnaa

attribute [local go_sem] gw_cell gw_frozen gw_size

theorem infoSpn : (Try.prog.info? 27).map (fun i => (i.zero, i.size)) = some (some (.agg #[.int .i64 0, .int .i64 0]), 2) := by kernel_rfl

set_option maxHeartbeats 400000 in
theorem has_any (lo hi n : Int) (w : World) :
    Calls Try.prog 24 #[.agg #[.int .i64 lo, .int .i64 hi], .int .i64 n] w fun e w' => e = .returned (.bool (inB n lo hi)) ∧ Below w.heap.size w w' := by
  unfold inB
  obtain ⟨W1, hW1⟩ : ∃ W1, w.alloc (.cells #[.int .i64 lo, .int .i64 hi] 27) = W1 := ⟨_, rfl⟩
  have hBc : Below w.heap.size w W1 := by rw [← hW1]; exact below_alloc _ _
  have zc0 : W1.heap[w.heap.size]? = some (.cells #[.int .i64 lo, .int .i64 hi] 27 (0, 0)) := by rw [← hW1]; exact alloc_at rfl
  have c00 : W1.cell? ⟨w.heap.size, 0, none⟩ = some (.int .i64 lo) := cell_of_block zc0 0 (by simp)
  have c01 : W1.cell? ⟨w.heap.size, 1, none⟩ = some (.int .i64 hi) := cell_of_block zc0 1 (by simp)
  have lc0 := (Array.getElem?_eq_some_iff.1 zc0).1
  clear zc0
  have HBc := Lib.hid hBc; clear hBc
  have HWc := Lib.hid hW1; clear hW1
  by_cases h : lo ≤ n
  · have h1 : decide (lo ≤ n) = true := by simp [h]
    rw [h1, Bool.true_and]
    clear h
    go_enter Try.func24, Try.ntmps24
    go_upto_region 1 with (fail)
    rw [HWc.out]
    go_wp2_with fail
    go_ret
    exact ⟨rfl, HBc.out⟩
  · have h1 : decide (lo ≤ n) = false := by simp; omega
    rw [h1, Bool.false_and]
    clear h
    go_enter Try.func24, Try.ntmps24
    go_upto_region 1 with (fail)
    rw [HWc.out]
    go_wp2_with fail
    go_ret
    exact ⟨rfl, HBc.out⟩

set_option maxRecDepth 100000 in
set_option maxHeartbeats 4000000 in
theorem true_any (t : Tab) (tlo thi u v vo : Int) (w : World) (hI : t.In w) (hL : t.Lens) (u0 : 0 ≤ u) (u1 : u ≤ 4294967295) (v0 : 0 ≤ v) (v1 : v ≤ 4294967295) (o0 : 0 ≤ vo) (o1 : vo ≤ 4294967295) :
    Calls Try.prog 11 #[t.val, .agg #[.int .i64 tlo, .int .i64 thi], .int .u32 u, .int .u32 v, .int .u32 vo] w fun e w' => e = .returned (.bool true) ∧ Below w.heap.size w w' := by
  obtain ⟨W1, hW1⟩ : ∃ W1, (w.alloc (.cells #[.slice t.aT t.nT t.cT, .slice t.aS t.nS t.cS, .slice t.H.a t.H.n t.H.c, .slice t.R.a t.R.n t.R.c] 25)).alloc (.cells #[.int .i64 tlo, .int .i64 thi] 27) = W1 := ⟨_, rfl⟩
  have hBc : Below w.heap.size w W1 := by rw [← hW1]; exact (below_alloc _ _).alloc (by simp) _
  have zc0 : W1.heap[w.heap.size]? = some (.cells #[.slice t.aT t.nT t.cT, .slice t.aS t.nS t.cS, .slice t.H.a t.H.n t.H.c, .slice t.R.a t.R.n t.R.c] 25 (0, 0)) := by rw [← hW1]; exact alloc_keep (alloc_at rfl)
  have zc1 : W1.heap[w.heap.size + 1]? = some (.cells #[.int .i64 tlo, .int .i64 thi] 27 (0, 0)) := by rw [← hW1]; exact alloc_at (by simp)
  have c00 : W1.cell? ⟨w.heap.size, 0, none⟩ = some (.slice t.aT t.nT t.cT) := cell_of_block zc0 0 (by simp)
  have c01 : W1.cell? ⟨w.heap.size, 1, none⟩ = some (.slice t.aS t.nS t.cS) := cell_of_block zc0 1 (by simp)
  have c02 : W1.cell? ⟨w.heap.size, 2, none⟩ = some (.slice t.H.a t.H.n t.H.c) := cell_of_block zc0 2 (by simp)
  have c03 : W1.cell? ⟨w.heap.size, 3, none⟩ = some (.slice t.R.a t.R.n t.R.c) := cell_of_block zc0 3 (by simp)
  have c10 : W1.cell? ⟨w.heap.size + 1, 0, none⟩ = some (.int .i64 tlo) := cell_of_block zc1 0 (by simp)
  have c11 : W1.cell? ⟨w.heap.size + 1, 1, none⟩ = some (.int .i64 thi) := cell_of_block zc1 1 (by simp)
  have lc0 := (Array.getElem?_eq_some_iff.1 zc0).1
  have lc1 := (Array.getElem?_eq_some_iff.1 zc1).1
  have Zc0 := Lib.hid zc0
  have Zc1 := Lib.hid zc1
  clear zc0 zc1
  have HBc := Lib.hid hBc; clear hBc
  have HWc := Lib.hid hW1; clear hW1
  have I1 := Lib.hid (hI.below HBc.out)
  have GR := Lib.hid (great_any t W1 I1.out hL)
  unfold Tab.val at GR ⊢
  clear hI
  go_enter Try.func11, Try.ntmps11
  go_upto_region 1 with (fail)
  rw [HWc.out]
  go_wp2_with fail
  refine GR.out.mono ?_
  rintro e w1 ⟨bg, rfl, hsm, hb⟩
  obtain ⟨z0, rfl⟩ := gw_of_below hb
  clear hb GR
  cases bg with
  | true =>
    go_wp2_with fail
    refine (Calls.gw_of (alive_any _)).mono ?_
    rintro e w1 ⟨rfl, z1, rfl⟩
    go_wp2_with fail
    go_ret
    exact ⟨rfl, HBc.out.gw z1⟩
  | false =>
    have hf := (hsm rfl).fits
    clear hsm
    cases hok : t.okB with
    | false =>
      have TB' := Lib.hid (fun W (hb : Below W1.heap.size W1 W) => rTable_b (b := false) t W (I1.out.below hb) hf hok)
      unfold Tab.val at TB'
      go_wp2_with fail
      refine (Calls.gw_of (TB'.out _ (below_gw W1 z0))).mono ?_
      rintro e w1 ⟨rfl, z1, rfl⟩
      go_wp2_with fail
      refine (Calls.gw_of (alive_any _)).mono ?_
      rintro e w1 ⟨rfl, z2, rfl⟩
      go_wp2_with fail
      go_ret
      exact ⟨rfl, HBc.out.gw z2⟩
    | true =>
      have TB' := Lib.hid (fun W (hb : Below W1.heap.size W1 W) => rTable_b (b := true) t W (I1.out.below hb) hf hok)
      have g := Tab.good hok
      have t2 := g.ok.t2
      have t32 := g.ok.t32
      have s2 := g.ok.s2
      have s32 := g.ok.s32
      simp only [Tab.tb] at t2 t32 s2 s32
      cases hT : t.fitT tlo thi with
      | false =>
        have TE' := Lib.hid (fun W (hb : Below W1.heap.size W1 W) => rTemp_b (b := false) t tlo thi W (I1.out.below hb) t2 t32 hT)
        unfold Tab.val at TB' TE'
        go_wp2_with fail
        refine (Calls.gw_of (TB'.out _ (below_gw W1 z0))).mono ?_
        rintro e w1 ⟨rfl, z1, rfl⟩
        go_wp2_with fail
        refine (Calls.gw_of (TE'.out _ (below_gw W1 z1))).mono ?_
        rintro e w1 ⟨rfl, z2, rfl⟩
        go_wp2_with fail
        refine (Calls.gw_of (alive_any _)).mono ?_
        rintro e w1 ⟨rfl, z3, rfl⟩
        go_wp2_with fail
        go_ret
        exact ⟨rfl, HBc.out.gw z3⟩
      | true =>
        have TE' := Lib.hid (fun W (hb : Below W1.heap.size W1 W) => rTemp_b (b := true) t tlo thi W (I1.out.below hb) t2 t32 hT)
        have ft := Tab.fitT_t hT
        have fta := ft.a
        have ftb := ft.b
        have ftc := ft.c
        simp only [Tab.tb] at fta ftb ftc
        have T0 := g.ok.bT 0 (by simp only [Tab.tb]; omega)
        have T1 := g.ok.bT (t.nT - 1) (by simp only [Tab.tb]; omega)
        have S0 := g.ok.bS 0 (by simp only [Tab.tb]; omega)
        have S1 := g.ok.bS (t.nS - 1) (by simp only [Tab.tb]; omega)
        have S2 := g.ok.rS.le 0 (t.nS - 1) (by omega) (by simp only [Tab.tb]; omega)
        simp only [Tab.tb] at T0 T1 S0 S1 S2
        rcases I1.out.iS with h | ⟨bS, oS, ea, lS, hc⟩
        · omega
        have x1 := hc 0 (by omega)
        have x2 := hc (t.nS - 1) (by omega)
        rw [Nat.add_zero] at x1
        clear hc
        have e1 : ((t.nS : Int) - 1).toNat = t.nS - 1 := by omega
        obtain ⟨y, hy⟩ : ∃ y, innerI (t.S 0) (t.S (t.nS - 1)) u = y := ⟨_, rfl⟩
        obtain ⟨x, hx⟩ : ∃ x, innerI tlo thi v = x := ⟨_, rfl⟩
        have yr := innerI_range (b := u) S2
        have xr := innerI_range (b := v) ftb
        rw [hy] at yr
        rw [hx] at xr
        have IY := Lib.hid (fun W => inner_any (t.S 0) (t.S (t.nS - 1)) u W (by omega) S2 (by omega) u0 u1)
        have IX' := Lib.hid (fun W (_ : Below W1.heap.size W1 W) => inner_any tlo thi v W (by omega) ftb (by omega) v0 v1)
        simp only [hy] at IY
        simp only [hx] at IX'
        obtain ⟨V, hV⟩ : ∃ V, vo % 1000000 = V := ⟨_, rfl⟩
        have V0 : 0 ≤ V ∧ V ≤ 999999 := by omega
        have vr := hval_range g (x := x) (y := y) (by omega) (by omega) yr.1 yr.2
        have rr := rval_range g (x := x) (y := y) (by omega) (by omega) yr.1 yr.2
        have hFX := Tab.t_fitT (t := t) (lo := x) (hi := x) ⟨by simp only [Tab.tb]; omega, Int.le_refl _, by simp only [Tab.tb]; omega⟩
        have hFY := Tab.t_fitS (t := t) (lo := y) (hi := y) ⟨yr.1, Int.le_refl _, yr.2⟩
        have vf := g.fit (x := x) (y := y) (g.rowsH I1.out) (Tab.fitT_t hFX) (Tab.fitS_t hFY)
        have rf := g.fit (x := x) (y := y) (g.rowsR I1.out) (Tab.fitT_t hFX) (Tab.fitS_t hFY)
        have fc := flr_le_cei (hval_d g t.H x y)
        have rc := flr_le_cei (hval_d g t.R x y)
        obtain ⟨a0, a1, a2, a3, a4⟩ := am_range (v := (t.valM t.R x y)) V0.1 V0.2 rr.1 rc rr.2
        obtain ⟨m, m1, m2, m3, m4, m5, m6, ⟨m7, m8, m9⟩, m10, m11, m12⟩ := true_plain g hok hT xr.1 xr.2 yr.1 yr.2 V0.1 V0.2
        have VH' := Lib.hid (fun W (hb : Below W1.heap.size W1 W) => rValue_any t g t.H x y W (I1.out.below hb) (g.rowsH (I1.out.below hb)) (Tab.fitT_t hFX) (Tab.fitS_t hFY))
        have VR' := Lib.hid (fun W (hb : Below W1.heap.size W1 W) => rValue_any t g t.R x y W (I1.out.below hb) (g.rowsR (I1.out.below hb)) (Tab.fitT_t hFX) (Tab.fitS_t hFY))
        have ME' := Lib.hid (fun W (hb : Below W1.heap.size W1 W) => Measured_any t (amLo V (t.valM t.R x y)) (amHi V (t.valM t.R x y)) (t.valM t.H x y).flr (t.valM t.H x y).cei tlo thi W (I1.out.below hb) hf)
        simp only [m1, m2] at ME'
        unfold Me.out at ME'
        have FH : Hid (∀ W, Calls Try.prog 31 #[.agg #[.int .i64 (t.valM t.H x y).n, .int .i64 (t.valM t.H x y).d]] W fun e w' => e = .returned (.int .i64 (t.valM t.H x y).flr) ∧ Below W.heap.size W w') := Lib.hid (fun W => rfloor_any (t.valM t.H x y).n (t.valM t.H x y).d W vf.n1 vf.n2 vf.d1)
        have CH : Hid (∀ W, Calls Try.prog 32 #[.agg #[.int .i64 (t.valM t.H x y).n, .int .i64 (t.valM t.H x y).d]] W fun e w' => e = .returned (.int .i64 (t.valM t.H x y).cei) ∧ Below W.heap.size W w') := Lib.hid (fun W => rceil_any (t.valM t.H x y).n (t.valM t.H x y).d W vf.n1 vf.n2 vf.d1)
        have FR : Hid (∀ W, Calls Try.prog 31 #[.agg #[.int .i64 (t.valM t.R x y).n, .int .i64 (t.valM t.R x y).d]] W fun e w' => e = .returned (.int .i64 (t.valM t.R x y).flr) ∧ Below W.heap.size W w') := Lib.hid (fun W => rfloor_any (t.valM t.R x y).n (t.valM t.R x y).d W rf.n1 rf.n2 rf.d1)
        have CR : Hid (∀ W, Calls Try.prog 32 #[.agg #[.int .i64 (t.valM t.R x y).n, .int .i64 (t.valM t.R x y).d]] W fun e w' => e = .returned (.int .i64 (t.valM t.R x y).cei) ∧ Below W.heap.size W w') := Lib.hid (fun W => rceil_any (t.valM t.R x y).n (t.valM t.R x y).d W rf.n1 rf.n2 rf.d1)
        have p0 := Int.mul_nonneg V0.1 (show 0 ≤ (t.valM t.R x y).flr by omega)
        have p1 := Int.mul_le_mul V0.2 (show (t.valM t.R x y).flr ≤ 1100000 by omega) (by omega) (by omega)
        have p2 := Int.mul_nonneg V0.1 (show 0 ≤ (t.valM t.R x y).cei by omega)
        have p3 := Int.mul_le_mul V0.2 rr.2 (by omega) (by omega)
        have FA : Hid (∀ W, Calls Try.prog 31 #[.agg #[.int .i64 (V * (t.valM t.R x y).flr), .int .i64 1000000]] W fun e w' => e = .returned (.int .i64 (amLo V (t.valM t.R x y))) ∧ Below W.heap.size W w') := Lib.hid (fun W => rfloor_any (V * (t.valM t.R x y).flr) 1000000 W (by omega) (by omega) (by omega))
        have CA : Hid (∀ W, Calls Try.prog 32 #[.agg #[.int .i64 (V * (t.valM t.R x y).cei), .int .i64 1000000]] W fun e w' => e = .returned (.int .i64 (amHi V (t.valM t.R x y))) ∧ Below W.heap.size W w') := Lib.hid (fun W => rceil_any (V * (t.valM t.R x y).cei) 1000000 W (by omega) (by omega) (by omega))
        have H1 := Lib.hid (fun W => has_any m.vl m.vh V W)
        simp only [inB_t.2 ⟨m3, m4⟩] at H1
        have H2 := Lib.hid (fun W => has_any m.sl m.sh y W)
        simp only [inB_t.2 ⟨m5, m6⟩] at H2
        have q0 := Int.mul_nonneg V0.1 (show 0 ≤ y by omega)
        have q1 := Int.mul_le_mul V0.2 (show y ≤ 10000 by omega) (by omega) (by omega)
        unfold Fr.val at VH' VR'
        clear m1 m2 m3 m4 m5 m6 hFX hFY vf rf g hok hT ft hy hx hL hf
        generalize amLo V (t.valM t.R x y) = al at *
        generalize amHi V (t.valM t.R x y) = ah at *
        generalize (t.valM t.H x y).flr = p at *
        generalize (t.valM t.H x y).cei = q at *
        generalize (t.valM t.H x y).n = hn at *
        generalize (t.valM t.H x y).d = hd at *
        generalize (t.valM t.R x y).flr = rp at *
        generalize (t.valM t.R x y).cei = rq at *
        generalize (t.valM t.R x y).n = rn at *
        generalize (t.valM t.R x y).d = rd at *
        generalize t.S 0 = s0 at *
        generalize t.S (t.nS - 1) = s1 at *
        have EA := Lib.hid ea
        clear ea
        unfold Tab.val at TB' TE' VH' VR' ME'
        unfold Rows.val at VH' VR'
        obtain ⟨mvl, mvh, msl, msh, mpl, mph⟩ := m
        dsimp only at *
        obtain ⟨X1, hX1⟩ : ∃ X, V * rp = X := ⟨_, rfl⟩
        obtain ⟨X2, hX2⟩ : ∃ X, V * rq = X := ⟨_, rfl⟩
        obtain ⟨X3, hX3⟩ : ∃ X, V * y = X := ⟨_, rfl⟩
        rw [hX1] at p0 p1 FA a3
        rw [hX2] at p2 p3 CA a4
        rw [hX3] at q0 q1 m9 m12
        have g1 : decide (mpl * 10000 ≤ X3) = true := by simp; omega
        have g2 : decide (X3 ≤ mph * 10000) = true := by simp; omega
        clear a3 a4
        go_wp2_with fail
        refine (Calls.gw_of (TB'.out _ (below_gw W1 z0))).mono ?_
        rintro e w1 ⟨rfl, z1, rfl⟩
        go_wp2_with fail
        refine (Calls.gw_of (TE'.out _ (below_gw W1 z1))).mono ?_
        rintro e w1 ⟨rfl, z2, rfl⟩
        go_upto_region 3 with (fail)
        rw [EA.out] at c01
        refine wp_region_gw2 (by kernel_rfl) (by kernel_rfl) ?_
        repeat (go_big_quiet_step ((go_at_call 23; with_reducible exact Calls.gw_of (IY.out _))))
        refine wpQuiet_nil ?_
        rintro _ ⟨z3, rfl⟩
        clear x1 x2 e1 lS
        clear c01
        have c01 : W1.cell? ⟨w.heap.size, 1, none⟩ = some (.slice t.aS t.nS t.cS) := cell_of_block Zc0.out 1 (by simp)
        go_wp2_with fail
        refine (Calls.gw_of (IX'.out _ (below_gw W1 z3))).mono ?_
        rintro e w1 ⟨rfl, z4, rfl⟩
        go_wp2_with fail
        refine (Calls.gw_of (VH'.out _ (below_gw W1 z4))).mono ?_
        rintro e w1 ⟨rfl, z5, rfl⟩
        go_upto_region 7 with (fail)
        obtain ⟨W2, hW2⟩ : ∃ W2, ((gw W1 z5)).alloc (.cells #[.int .i64 hn, .int .i64 hd] 35) = W2 := ⟨_, rfl⟩
        have hbW2 : Below W1.heap.size W1 W2 := by rw [← hW2]; exact (below_gw W1 z5).alloc (by simp [gw_size]) _
        have ZtW2 := Lib.hid ((hbW2.block _ (Array.getElem?_eq_some_iff.1 Zc0.out).1).trans Zc0.out)
        have ZmW2 := Lib.hid ((hbW2.block _ (Array.getElem?_eq_some_iff.1 Zc1.out).1).trans Zc1.out)
        have zfW2 : W2.heap[W1.heap.size + z5.bs.size]? = some (.cells #[.int .i64 hn, .int .i64 hd] 35 (0, 0)) := by rw [← hW2]; exact alloc_at (by simp [gw_size])
        have ZfW2 := Lib.hid zfW2; clear zfW2
        have HBW2 := Lib.hid (thru hbW2 HBc.out)
        have SBW2 := Lib.hid hbW2; clear hbW2
        have HWW2 := Lib.hid hW2; clear hW2
        rw [HWW2.out]
        clear c00 c01 c02 c03 c10 c11
        have S2 := Lib.hid SBW2.out
        have et0W2 : W2.cell? ⟨w.heap.size, 0, none⟩ = some (.slice t.aT t.nT t.cT) := cell_of_block ZtW2.out 0 (by simp)
        have et1W2 : W2.cell? ⟨w.heap.size, 1, none⟩ = some (.slice t.aS t.nS t.cS) := cell_of_block ZtW2.out 1 (by simp)
        have et2W2 : W2.cell? ⟨w.heap.size, 2, none⟩ = some (.slice t.H.a t.H.n t.H.c) := cell_of_block ZtW2.out 2 (by simp)
        have et3W2 : W2.cell? ⟨w.heap.size, 3, none⟩ = some (.slice t.R.a t.R.n t.R.c) := cell_of_block ZtW2.out 3 (by simp)
        have ltW2 := (Array.getElem?_eq_some_iff.1 ZtW2.out).1
        go_wp2_with fail
        refine (Calls.grown (VR'.out _ (S2.out))).mono ?_
        rintro e w1 ⟨rfl, z6, rfl⟩
        go_upto_region 8 with (fail)
        obtain ⟨W3, hW3⟩ : ∃ W3, ((gw W2 z6)).alloc (.cells #[.int .i64 rn, .int .i64 rd] 35) = W3 := ⟨_, rfl⟩
        have hbW3 : Below W2.heap.size W2 W3 := by rw [← hW3]; exact (below_gw W2 z6).alloc (by simp [gw_size]) _
        have ZtW3 := Lib.hid ((hbW3.block _ (Array.getElem?_eq_some_iff.1 ZtW2.out).1).trans ZtW2.out)
        have ZmW3 := Lib.hid ((hbW3.block _ (Array.getElem?_eq_some_iff.1 ZmW2.out).1).trans ZmW2.out)
        have ZfW3 := Lib.hid ((hbW3.block _ (Array.getElem?_eq_some_iff.1 ZfW2.out).1).trans ZfW2.out)
        have zgW3 : W3.heap[W2.heap.size + z6.bs.size]? = some (.cells #[.int .i64 rn, .int .i64 rd] 35 (0, 0)) := by rw [← hW3]; exact alloc_at (by simp [gw_size])
        have ZgW3 := Lib.hid zgW3; clear zgW3
        have HBW3 := Lib.hid (thru hbW3 HBW2.out)
        have SBW3 := Lib.hid hbW3; clear hbW3
        have HWW3 := Lib.hid hW3; clear hW3
        rw [HWW3.out]
        clear et0W2 et1W2 et2W2 et3W2
        have S3 := Lib.hid (S2.out.trans (SBW3.out.mono S2.out.size))
        have eg0W3 : W3.cell? ⟨W2.heap.size + z6.bs.size, 0, none⟩ = some (.int .i64 rn) := cell_of_block ZgW3.out 0 (by simp)
        have eg1W3 : W3.cell? ⟨W2.heap.size + z6.bs.size, 1, none⟩ = some (.int .i64 rd) := cell_of_block ZgW3.out 1 (by simp)
        have lgW3 := (Array.getElem?_eq_some_iff.1 ZgW3.out).1
        go_wp2_with fail
        refine (Calls.grown (FR.out _)).mono ?_
        rintro e w1 ⟨rfl, z7, rfl⟩
        go_upto_region 9 with (fail)
        obtain ⟨W4, hW4⟩ : ∃ W4, ((gw W3 z7)).alloc (.cells #[.int .i64 X1, .int .i64 1000000] 35) = W4 := ⟨_, rfl⟩
        have hbW4 : Below W3.heap.size W3 W4 := by rw [← hW4]; exact (below_gw W3 z7).alloc (by simp [gw_size]) _
        have ZtW4 := Lib.hid ((hbW4.block _ (Array.getElem?_eq_some_iff.1 ZtW3.out).1).trans ZtW3.out)
        have ZmW4 := Lib.hid ((hbW4.block _ (Array.getElem?_eq_some_iff.1 ZmW3.out).1).trans ZmW3.out)
        have ZfW4 := Lib.hid ((hbW4.block _ (Array.getElem?_eq_some_iff.1 ZfW3.out).1).trans ZfW3.out)
        have ZgW4 := Lib.hid ((hbW4.block _ (Array.getElem?_eq_some_iff.1 ZgW3.out).1).trans ZgW3.out)
        have zaW4 : W4.heap[W3.heap.size + z7.bs.size]? = some (.cells #[.int .i64 X1, .int .i64 1000000] 35 (0, 0)) := by rw [← hW4]; exact alloc_at (by simp [gw_size])
        have ZaW4 := Lib.hid zaW4; clear zaW4
        have HBW4 := Lib.hid (thru hbW4 HBW3.out)
        have SBW4 := Lib.hid hbW4; clear hbW4
        have HWW4 := Lib.hid hW4; clear hW4
        rw [HWW4.out]
        clear eg0W3 eg1W3
        have S4 := Lib.hid (S3.out.trans (SBW4.out.mono S3.out.size))
        have eg0W4 : W4.cell? ⟨W2.heap.size + z6.bs.size, 0, none⟩ = some (.int .i64 rn) := cell_of_block ZgW4.out 0 (by simp)
        have eg1W4 : W4.cell? ⟨W2.heap.size + z6.bs.size, 1, none⟩ = some (.int .i64 rd) := cell_of_block ZgW4.out 1 (by simp)
        have lgW4 := (Array.getElem?_eq_some_iff.1 ZgW4.out).1
        go_wp2_with fail
        refine (Calls.grown (CR.out _)).mono ?_
        rintro e w1 ⟨rfl, z8, rfl⟩
        go_upto_region 10 with (fail)
        obtain ⟨W5, hW5⟩ : ∃ W5, ((gw W4 z8)).alloc (.cells #[.int .i64 X2, .int .i64 1000000] 35) = W5 := ⟨_, rfl⟩
        have hbW5 : Below W4.heap.size W4 W5 := by rw [← hW5]; exact (below_gw W4 z8).alloc (by simp [gw_size]) _
        have ZtW5 := Lib.hid ((hbW5.block _ (Array.getElem?_eq_some_iff.1 ZtW4.out).1).trans ZtW4.out)
        have ZmW5 := Lib.hid ((hbW5.block _ (Array.getElem?_eq_some_iff.1 ZmW4.out).1).trans ZmW4.out)
        have ZfW5 := Lib.hid ((hbW5.block _ (Array.getElem?_eq_some_iff.1 ZfW4.out).1).trans ZfW4.out)
        have ZgW5 := Lib.hid ((hbW5.block _ (Array.getElem?_eq_some_iff.1 ZgW4.out).1).trans ZgW4.out)
        have ZaW5 := Lib.hid ((hbW5.block _ (Array.getElem?_eq_some_iff.1 ZaW4.out).1).trans ZaW4.out)
        have zbW5 : W5.heap[W4.heap.size + z8.bs.size]? = some (.cells #[.int .i64 X2, .int .i64 1000000] 35 (0, 0)) := by rw [← hW5]; exact alloc_at (by simp [gw_size])
        have ZbW5 := Lib.hid zbW5; clear zbW5
        have HBW5 := Lib.hid (thru hbW5 HBW4.out)
        have SBW5 := Lib.hid hbW5; clear hbW5
        have HWW5 := Lib.hid hW5; clear hW5
        rw [HWW5.out]
        clear eg0W4 eg1W4
        have S5 := Lib.hid (S4.out.trans (SBW5.out.mono S4.out.size))
        have ea0W5 : W5.cell? ⟨W3.heap.size + z7.bs.size, 0, none⟩ = some (.int .i64 X1) := cell_of_block ZaW5.out 0 (by simp)
        have ea1W5 : W5.cell? ⟨W3.heap.size + z7.bs.size, 1, none⟩ = some (.int .i64 1000000) := cell_of_block ZaW5.out 1 (by simp)
        have laW5 := (Array.getElem?_eq_some_iff.1 ZaW5.out).1
        have eb0W5 : W5.cell? ⟨W4.heap.size + z8.bs.size, 0, none⟩ = some (.int .i64 X2) := cell_of_block ZbW5.out 0 (by simp)
        have eb1W5 : W5.cell? ⟨W4.heap.size + z8.bs.size, 1, none⟩ = some (.int .i64 1000000) := cell_of_block ZbW5.out 1 (by simp)
        have lbW5 := (Array.getElem?_eq_some_iff.1 ZbW5.out).1
        refine wp_region_box1 [true, true, true, true, true, false, false] 5 6 #[.int .i64 0, .int .i64 0] #[.int .i64 al, .int .i64 ah] (by kernel_rfl) rfl rfl rfl (by kernel_rfl) rfl (by kernel_rfl) infoSpn rfl rfl (by simp [Value.oneCell']) ?_
        apply Exists.intro
        refine ⟨fun S hS hx => ?_, ?_, ?_⟩
        · obtain ⟨x0, hx0⟩ := hx
          haveI : Nonempty (GrewS W5 S) := ⟨⟨x0, hx0⟩⟩
          simp only [pickM]
          repeat (go_big_quiet_step (first | (go_at_call 31; with_reducible exact Calls.gwS hS (FA.out _)) | (go_at_call 32; with_reducible exact Calls.gwS hS (CA.out _))))
          exact wpQuiet_nil rfl
        · rfl
        · intro Bs vs hBws hblk hbb
          have HKs := Lib.hid hblk; clear hblk
          have SBvs := Lib.hid (hbb)
          have Ztvs := Lib.hid ((SBvs.out.block _ (Array.getElem?_eq_some_iff.1 ZtW5.out).1).trans ZtW5.out)
          have Zmvs := Lib.hid ((SBvs.out.block _ (Array.getElem?_eq_some_iff.1 ZmW5.out).1).trans ZmW5.out)
          have Zfvs := Lib.hid ((SBvs.out.block _ (Array.getElem?_eq_some_iff.1 ZfW5.out).1).trans ZfW5.out)
          have Zgvs := Lib.hid ((SBvs.out.block _ (Array.getElem?_eq_some_iff.1 ZgW5.out).1).trans ZgW5.out)
          have Zavs := Lib.hid ((SBvs.out.block _ (Array.getElem?_eq_some_iff.1 ZaW5.out).1).trans ZaW5.out)
          have Zbvs := Lib.hid ((SBvs.out.block _ (Array.getElem?_eq_some_iff.1 ZbW5.out).1).trans ZbW5.out)
          have HBvs := Lib.hid (thru SBvs.out HBW5.out)
          have Svs := Lib.hid (S5.out.trans (SBvs.out.mono S5.out.size))
          clear hbb
          go_upto_region 11 with (fail)
          simp only [Act.put, List.setIfInBounds_toArray, List.set_cons_succ, List.set_cons_zero]
          have et0vs : vs.cell? ⟨w.heap.size, 0, none⟩ = some (.slice t.aT t.nT t.cT) := cell_of_block Ztvs.out 0 (by simp)
          have et1vs : vs.cell? ⟨w.heap.size, 1, none⟩ = some (.slice t.aS t.nS t.cS) := cell_of_block Ztvs.out 1 (by simp)
          have et2vs : vs.cell? ⟨w.heap.size, 2, none⟩ = some (.slice t.H.a t.H.n t.H.c) := cell_of_block Ztvs.out 2 (by simp)
          have et3vs : vs.cell? ⟨w.heap.size, 3, none⟩ = some (.slice t.R.a t.R.n t.R.c) := cell_of_block Ztvs.out 3 (by simp)
          have ltvs := (Array.getElem?_eq_some_iff.1 Ztvs.out).1
          have em0vs : vs.cell? ⟨w.heap.size + 1, 0, none⟩ = some (.int .i64 tlo) := cell_of_block Zmvs.out 0 (by simp)
          have em1vs : vs.cell? ⟨w.heap.size + 1, 1, none⟩ = some (.int .i64 thi) := cell_of_block Zmvs.out 1 (by simp)
          have lmvs := (Array.getElem?_eq_some_iff.1 Zmvs.out).1
          have es0vs : vs.cell? ⟨Bs, 0, none⟩ = some (.int .i64 al) := cell_of_block HKs.out 0 (by simp)
          have es1vs : vs.cell? ⟨Bs, 1, none⟩ = some (.int .i64 ah) := cell_of_block HKs.out 1 (by simp)
          have lsvs := (Array.getElem?_eq_some_iff.1 HKs.out).1
          have ef0vs : vs.cell? ⟨W1.heap.size + z5.bs.size, 0, none⟩ = some (.int .i64 hn) := cell_of_block Zfvs.out 0 (by simp)
          have ef1vs : vs.cell? ⟨W1.heap.size + z5.bs.size, 1, none⟩ = some (.int .i64 hd) := cell_of_block Zfvs.out 1 (by simp)
          have lfvs := (Array.getElem?_eq_some_iff.1 Zfvs.out).1
          refine wp_region_box3 (d1 := 19) (v1 := 95) (d2 := 20) (v2 := 96) (d3 := 21) (v3 := 97) (T := 27) [true, true, true, true, true, true, true, true, true, true, true, true, true, true, false, false, false, false, false, false, true] 14 17 15 18 16 19 #[.int .i64 0, .int .i64 0] #[.int .i64 mvl, .int .i64 mvh] #[.int .i64 msl, .int .i64 msh] #[.int .i64 mpl, .int .i64 mph] (by kernel_rfl) rfl (fun x hx => by simp only [List.mem_cons, List.not_mem_nil, or_false] at hx; rcases hx with rfl | rfl | rfl <;> exact ⟨_, rfl, rfl, rfl, rfl⟩) (fun x hx => by simp only [List.mem_cons, List.not_mem_nil, or_false] at hx; rcases hx with rfl | rfl | rfl <;> exact ⟨_, rfl, rfl, rfl, rfl⟩) (by kernel_rfl) rfl (by kernel_rfl) infoSpn rfl rfl rfl rfl (by simp [Value.oneCell']) (by simp [Value.oneCell']) (by simp [Value.oneCell']) ?_
          apply Exists.intro
          refine ⟨fun S hS hx => ?_, ?_, ?_, ?_, ?_⟩
          · obtain ⟨x0, hx0⟩ := hx
            haveI : Nonempty (GrewS vs S) := ⟨⟨x0, hx0⟩⟩
            simp only [pickM]
            repeat (go_big_quiet_step (first | (go_at_call 31; with_reducible exact Calls.gwS hS (FH.out _)) | (go_at_call 32; with_reducible exact Calls.gwS hS (CH.out _)) | (go_at_call 39; with_reducible exact Calls.gwS hS (ME'.out _ (Svs.out.trans ((below_gw vs _).mono Svs.out.size))))))
            exact wpQuiet_nil rfl
          · rfl
          · rfl
          · rfl
          · intro Bv Bc Bd vvcd hq1 hq2 hq3 hk1 hk2 hk3 hbb
            have HKv := Lib.hid hk1; clear hk1
            have HKc := Lib.hid hk2; clear hk2
            have HKd := Lib.hid hk3; clear hk3
            have SBvvcd := Lib.hid (hbb)
            have Ztvvcd := Lib.hid ((SBvvcd.out.block _ (Array.getElem?_eq_some_iff.1 Ztvs.out).1).trans Ztvs.out)
            have Zmvvcd := Lib.hid ((SBvvcd.out.block _ (Array.getElem?_eq_some_iff.1 Zmvs.out).1).trans Zmvs.out)
            have Zfvvcd := Lib.hid ((SBvvcd.out.block _ (Array.getElem?_eq_some_iff.1 Zfvs.out).1).trans Zfvs.out)
            have Zgvvcd := Lib.hid ((SBvvcd.out.block _ (Array.getElem?_eq_some_iff.1 Zgvs.out).1).trans Zgvs.out)
            have Zavvcd := Lib.hid ((SBvvcd.out.block _ (Array.getElem?_eq_some_iff.1 Zavs.out).1).trans Zavs.out)
            have Zbvvcd := Lib.hid ((SBvvcd.out.block _ (Array.getElem?_eq_some_iff.1 Zbvs.out).1).trans Zbvs.out)
            have Zsvvcd := Lib.hid ((SBvvcd.out.block _ (Array.getElem?_eq_some_iff.1 HKs.out).1).trans HKs.out)
            have HBvvcd := Lib.hid (thru SBvvcd.out HBvs.out)
            have Svvcd := Lib.hid (Svs.out.trans (SBvvcd.out.mono Svs.out.size))
            clear hbb
            go_upto_region 12 with (fail)
            simp only [Act.put, List.setIfInBounds_toArray, List.set_cons_succ, List.set_cons_zero]
            have ev0vvcd : vvcd.cell? ⟨Bv, 0, none⟩ = some (.int .i64 mvl) := cell_of_block HKv.out 0 (by simp)
            have ev1vvcd : vvcd.cell? ⟨Bv, 1, none⟩ = some (.int .i64 mvh) := cell_of_block HKv.out 1 (by simp)
            have lvvvcd := (Array.getElem?_eq_some_iff.1 HKv.out).1
            have ec0vvcd : vvcd.cell? ⟨Bc, 0, none⟩ = some (.int .i64 msl) := cell_of_block HKc.out 0 (by simp)
            have ec1vvcd : vvcd.cell? ⟨Bc, 1, none⟩ = some (.int .i64 msh) := cell_of_block HKc.out 1 (by simp)
            have lcvvcd := (Array.getElem?_eq_some_iff.1 HKc.out).1
            have ed0vvcd : vvcd.cell? ⟨Bd, 0, none⟩ = some (.int .i64 mpl) := cell_of_block HKd.out 0 (by simp)
            have ed1vvcd : vvcd.cell? ⟨Bd, 1, none⟩ = some (.int .i64 mph) := cell_of_block HKd.out 1 (by simp)
            have ldvvcd := (Array.getElem?_eq_some_iff.1 HKd.out).1
            go_wp2_with fail
            refine (Calls.grown (H1.out _)).mono ?_
            rintro e w1 ⟨rfl, z9, rfl⟩
            go_wp2_with fail
            refine (Calls.gw_of (H2.out _)).mono ?_
            rintro e w1 ⟨rfl, z10, rfl⟩
            go_wp2_with fail
            refine (Calls.gw_of (alive_any _)).mono ?_
            rintro e w1 ⟨rfl, z11, rfl⟩
            go_wp2_with fail
            go_ret
            exact ⟨rfl, HBvvcd.out.gw z11⟩
end Go.Proofs.Ytohcopdfdmjhnaa.L1
