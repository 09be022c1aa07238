/- The law StrengthTight returns true. No conditions beyond each theorem's own. -/
import Derived.Test.YtohcopdfdmjhnaaUc
import Derived.Test.YtohcopdfdmjhnaaUt
import Derived.Test.YtohcopdfdmjhnaaTd
import Derived.Test.YtohcopdfdmjhnaaAb
set_option linter.unusedVariables false
set_option linter.unusedSimpArgs false
set_option linter.unusedSectionVars false
set_option linter.constructorNameAsVariable false
namespace Go.Proofs.Ytohcopdfdmjhnaa.L1
open Go.RowKit
open Go.Proofs.Ytohcopdfdmjhnaa

attribute [local go_sem] gw_cell gw_frozen gw_size
attribute [local go_sem ↓] run_minI

theorem run_maxJ {Q : Program} (w : World) (ts : Array TypeId) (t : TypeId) (k k' : IntKind) (x y : Int) : (Builtin.max_ ts t #[.int k x, .int k' y]).run Q w = .ok (.int k (max x y)) w := by rw [run_maxZ, maxZ_eq]
attribute [local go_sem ↓] run_maxJ
set_option maxRecDepth 100000 in
set_option maxHeartbeats 4000000 in
theorem tight_any (t : Tab) (lo hi tlo thi : Int) (w : World) (hI : t.In w) (hL : t.Lens) (i1 : In64 lo ∧ In64 hi) :
    Calls Try.prog 3 #[t.val, .agg #[.int .i64 lo, .int .i64 hi], .agg #[.int .i64 tlo, .int .i64 thi]] w fun e w' => e = .returned (.bool true) ∧ Below w.heap.size w w' := by
  obtain ⟨W1, hW1⟩ : ∃ W1, ((w.alloc (.cells #[.slice t.aT t.nT t.cT, .slice t.aS t.nS t.cS, .slice t.H.a t.H.n t.H.c, .slice t.R.a t.R.n t.R.c] 25)).alloc (.cells #[.int .i64 lo, .int .i64 hi] 27)).alloc (.cells #[.int .i64 tlo, .int .i64 thi] 27) = W1 := ⟨_, rfl⟩
  have hBc : Below w.heap.size w W1 := by rw [← hW1]; exact ((below_alloc _ _).alloc (by simp) _).alloc (by simp <;> omega) _
  have zc0 : W1.heap[w.heap.size]? = some (.cells #[.slice t.aT t.nT t.cT, .slice t.aS t.nS t.cS, .slice t.H.a t.H.n t.H.c, .slice t.R.a t.R.n t.R.c] 25 (0, 0)) := by rw [← hW1]; exact alloc_keep (alloc_keep (alloc_at rfl))
  have zc1 : W1.heap[w.heap.size + 1]? = some (.cells #[.int .i64 lo, .int .i64 hi] 27 (0, 0)) := by rw [← hW1]; exact alloc_keep (alloc_at (by simp))
  have zc2 : W1.heap[w.heap.size + 1 + 1]? = some (.cells #[.int .i64 tlo, .int .i64 thi] 27 (0, 0)) := by rw [← hW1]; exact alloc_at (by simp <;> omega)
  have c00 : W1.cell? ⟨w.heap.size, 0, none⟩ = some (.slice t.aT t.nT t.cT) := cell_of_block zc0 0 (by simp)
  have c01 : W1.cell? ⟨w.heap.size, 1, none⟩ = some (.slice t.aS t.nS t.cS) := cell_of_block zc0 1 (by simp)
  have c02 : W1.cell? ⟨w.heap.size, 2, none⟩ = some (.slice t.H.a t.H.n t.H.c) := cell_of_block zc0 2 (by simp)
  have c03 : W1.cell? ⟨w.heap.size, 3, none⟩ = some (.slice t.R.a t.R.n t.R.c) := cell_of_block zc0 3 (by simp)
  have c10 : W1.cell? ⟨w.heap.size + 1, 0, none⟩ = some (.int .i64 lo) := cell_of_block zc1 0 (by simp)
  have c11 : W1.cell? ⟨w.heap.size + 1, 1, none⟩ = some (.int .i64 hi) := cell_of_block zc1 1 (by simp)
  have c20 : W1.cell? ⟨w.heap.size + 1 + 1, 0, none⟩ = some (.int .i64 tlo) := cell_of_block zc2 0 (by simp)
  have c21 : W1.cell? ⟨w.heap.size + 1 + 1, 1, none⟩ = some (.int .i64 thi) := cell_of_block zc2 1 (by simp)
  have lc0 := (Array.getElem?_eq_some_iff.1 zc0).1
  have lc1 := (Array.getElem?_eq_some_iff.1 zc1).1
  have lc2 := (Array.getElem?_eq_some_iff.1 zc2).1
  have Zc0 := Lib.hid zc0
  have Zc1 := Lib.hid zc1
  have Zc2 := Lib.hid zc2
  clear zc0 zc1 zc2
  have HBc := Lib.hid hBc; clear hBc
  have HWc := Lib.hid hW1; clear hW1
  have I1 := Lib.hid (hI.below HBc.out)
  have GR := Lib.hid (great_any t W1 I1.out hL)
  unfold Tab.val at GR ⊢
  clear hI
  go_enter Try.func3, Try.ntmps3
  go_upto_region 1 with (fail)
  rw [HWc.out]
  go_wp2_with fail
  refine GR.out.mono ?_
  rintro e w1 ⟨bg, rfl, hsm, hb⟩
  obtain ⟨z0, rfl⟩ := gw_of_below hb
  clear hb GR
  cases bg with
  | true =>
    go_wp2_with fail
    refine (Calls.gw_of (alive_any _)).mono ?_
    rintro e w1 ⟨rfl, z1, rfl⟩
    go_wp2_with fail
    go_ret
    exact ⟨rfl, HBc.out.gw z1⟩
  | false =>
    have hf := (hsm rfl).fits
    clear hsm
    have ST' := Lib.hid (fun W (hb : Below W1.heap.size W1 W) => Strength_any t lo hi tlo thi W (I1.out.below hb) hf)
    by_cases hE : t.strE lo hi tlo thi = 0
    · have TP := tight_plain hE
      obtain ⟨hok, hlh, hT, hn⟩ := Tab.strE_zero hE
      have g := Tab.good hok
      have ft := Tab.fitT_t hT
      obtain ⟨r0, r1, r2, r3⟩ := str_range hE
      have hS := Tab.t_fitS r3
      have r4 := r3.a
      have r5 := r3.c
      simp only [Tab.tb] at r4 r5
      have t2 := g.ok.t2
      have t32 := g.ok.t32
      have s2 := g.ok.s2
      have s32 := g.ok.s32
      simp only [Tab.tb] at t2 t32 s2 s32
      have S0 := g.ok.bS 0 (by simp only [Tab.tb]; omega)
      have S1 := g.ok.bS (t.nS - 1) (by simp only [Tab.tb]; omega)
      simp only [Tab.tb] at S0 S1
      simp only [hE] at ST'
      have TB' := Lib.hid (fun W (hb : Below W1.heap.size W1 W) => rTable_b (b := true) t W (I1.out.below hb) hf hok)
      have TE' := Lib.hid (fun W (hb : Below W1.heap.size W1 W) => rTemp_b (b := true) t tlo thi W (I1.out.below hb) t2 t32 hT)
      have RS' := Lib.hid (fun W (hb : Below W1.heap.size W1 W) => rStrong_b (b := true) t (t.strL lo hi tlo thi) (t.strH lo hi tlo thi) W (I1.out.below hb) s2 s32 hS)
      obtain ⟨T1, T2, T3, T4, k3, k4⟩ := TP
      have k1 : t.tb.FitS (t.strL lo hi tlo thi) (t.strL lo hi tlo thi) := ⟨r3.a, Int.le_refl _, by simp only [Tab.tb]; omega⟩
      have k2 : t.tb.FitS (t.strH lo hi tlo thi) (t.strH lo hi tlo thi) := ⟨by simp only [Tab.tb]; omega, Int.le_refl _, r3.c⟩
      have E0' := Lib.hid (fun W (hb : Below W1.heap.size W1 W) => rSees_any t g (t.strL lo hi tlo thi) tlo thi W (I1.out.below hb) ft k1)
      have fl0 := rlow_fit (m := t.H) g (g.rowsH I1.out) ft k1
      have fh0 := rhigh_fit (m := t.H) g (g.rowsH I1.out) ft k1
      have E1' := Lib.hid (fun W (hb : Below W1.heap.size W1 W) => rSees_any t g (min (t.S (t.nS - 1)) (t.strL lo hi tlo thi + 1)) tlo thi W (I1.out.below hb) ft k3)
      have fl1 := rlow_fit (m := t.H) g (g.rowsH I1.out) ft k3
      have fh1 := rhigh_fit (m := t.H) g (g.rowsH I1.out) ft k3
      have E2' := Lib.hid (fun W (hb : Below W1.heap.size W1 W) => rSees_any t g (t.strH lo hi tlo thi) tlo thi W (I1.out.below hb) ft k2)
      have fl2 := rlow_fit (m := t.H) g (g.rowsH I1.out) ft k2
      have fh2 := rhigh_fit (m := t.H) g (g.rowsH I1.out) ft k2
      have E3' := Lib.hid (fun W (hb : Below W1.heap.size W1 W) => rSees_any t g (max (t.S 0) (t.strH lo hi tlo thi - 1)) tlo thi W (I1.out.below hb) ft k4)
      have fl3 := rlow_fit (m := t.H) g (g.rowsH I1.out) ft k4
      have fh3 := rhigh_fit (m := t.H) g (g.rowsH I1.out) ft k4
      have cl := clm_fit lo
      have ch := clm_fit hi
      clear hok hT hn hlh hE hS r3 k1 k2 k3 k4 g ft hf
      generalize t.rlow t.H (t.strL lo hi tlo thi) (t.strL lo hi tlo thi) tlo thi = FL0 at *
      generalize t.rhigh t.H (t.strL lo hi tlo thi) (t.strL lo hi tlo thi) tlo thi = FH0 at *
      generalize t.rlow t.H (min (t.S (t.nS - 1)) (t.strL lo hi tlo thi + 1)) (min (t.S (t.nS - 1)) (t.strL lo hi tlo thi + 1)) tlo thi = FL1 at *
      generalize t.rhigh t.H (min (t.S (t.nS - 1)) (t.strL lo hi tlo thi + 1)) (min (t.S (t.nS - 1)) (t.strL lo hi tlo thi + 1)) tlo thi = FH1 at *
      generalize t.rlow t.H (t.strH lo hi tlo thi) (t.strH lo hi tlo thi) tlo thi = FL2 at *
      generalize t.rhigh t.H (t.strH lo hi tlo thi) (t.strH lo hi tlo thi) tlo thi = FH2 at *
      generalize t.rlow t.H (max (t.S 0) (t.strH lo hi tlo thi - 1)) (max (t.S 0) (t.strH lo hi tlo thi - 1)) tlo thi = FL3 at *
      generalize t.rhigh t.H (max (t.S 0) (t.strH lo hi tlo thi - 1)) (max (t.S 0) (t.strH lo hi tlo thi - 1)) tlo thi = FH3 at *
      generalize t.strL lo hi tlo thi = al at *
      generalize t.strH lo hi tlo thi = ah at *
      rcases I1.out.iS with h | ⟨bS, oS, ea, lS, hc⟩
      · omega
      have x1 := hc 0 (by omega)
      have x2 := hc (t.nS - 1) (by omega)
      rw [Nat.add_zero] at x1
      clear hc
      have e1 : ((t.nS : Int) - 1).toNat = t.nS - 1 := by omega
      have EA := Lib.hid ea
      clear ea
      generalize t.S 0 = s0 at *
      generalize t.S (t.nS - 1) = s1 at *
      have L1 := Lib.hid (fun W => rless_any ⟨clm lo, 1⟩ FH0 W cl fh0)
      have L2 := Lib.hid (fun W => rless_any FH0 ⟨clm lo, 1⟩ W fh0 cl)
      have L3 := Lib.hid (fun W => rless_any ⟨clm lo, 1⟩ FH1 W cl fh1)
      have L4 := Lib.hid (fun W => rless_any FL2 ⟨clm hi, 1⟩ W fl2 ch)
      have L5 := Lib.hid (fun W => rless_any ⟨clm hi, 1⟩ FL2 W ch fl2)
      have L6 := Lib.hid (fun W => rless_any FL3 ⟨clm hi, 1⟩ W fl3 ch)
      clear fl0 fh0 fl1 fh1 fl2 fh2 fl3 fh3 cl ch
      obtain ⟨ln0, ld0⟩ := FL0
      obtain ⟨hn0, hd0⟩ := FH0
      obtain ⟨ln1, ld1⟩ := FL1
      obtain ⟨hn1, hd1⟩ := FH1
      obtain ⟨ln2, ld2⟩ := FL2
      obtain ⟨hn2, hd2⟩ := FH2
      obtain ⟨ln3, ld3⟩ := FL3
      obtain ⟨hn3, hd3⟩ := FH3
      unfold Fr.val at E0' E1' E2' E3'
      unfold Tab.val at TB' TE' RS' E0' E1' E2' E3'
      dsimp only at *
      have HT1 := Lib.hid T1; have HT2 := Lib.hid T2; have HT3 := Lib.hid T3; have HT4 := Lib.hid T4
      clear T1 T2 T3 T4
      go_wp2_with fail
      refine (Calls.gw_of (ST'.out _ (below_gw W1 z0))).mono ?_
      rintro e w1 ⟨rfl, z1, rfl⟩
      go_upto_region 4 with (fail)
      obtain ⟨W2, hW2⟩ : ∃ W2, ((gw W1 z1)).alloc (.cells #[.int .i64 al, .int .i64 ah] 27) = W2 := ⟨_, rfl⟩
      have hbW2 : Below W1.heap.size W1 W2 := by rw [← hW2]; exact (below_gw W1 z1).alloc (by simp [gw_size]) _
      have ZtW2 := Lib.hid ((hbW2.block _ (Array.getElem?_eq_some_iff.1 Zc0.out).1).trans Zc0.out)
      have ZxW2 := Lib.hid ((hbW2.block _ (Array.getElem?_eq_some_iff.1 Zc1.out).1).trans Zc1.out)
      have ZmW2 := Lib.hid ((hbW2.block _ (Array.getElem?_eq_some_iff.1 Zc2.out).1).trans Zc2.out)
      have zaW2 : W2.heap[W1.heap.size + z1.bs.size]? = some (.cells #[.int .i64 al, .int .i64 ah] 27 (0, 0)) := by rw [← hW2]; exact alloc_at (by simp [gw_size])
      have ZaW2 := Lib.hid zaW2; clear zaW2
      have HBW2 := Lib.hid (thru hbW2 HBc.out)
      have SBW2 := Lib.hid hbW2; clear hbW2
      have HWW2 := Lib.hid hW2; clear hW2
      rw [HWW2.out]
      clear c00 c01 c02 c03 c10 c11 c20 c21
      have S2 := Lib.hid SBW2.out
      have et0W2 : W2.cell? ⟨w.heap.size, 0, none⟩ = some (.slice t.aT t.nT t.cT) := cell_of_block ZtW2.out 0 (by simp)
      have et1W2 : W2.cell? ⟨w.heap.size, 1, none⟩ = some (.slice t.aS t.nS t.cS) := cell_of_block ZtW2.out 1 (by simp)
      have et2W2 : W2.cell? ⟨w.heap.size, 2, none⟩ = some (.slice t.H.a t.H.n t.H.c) := cell_of_block ZtW2.out 2 (by simp)
      have et3W2 : W2.cell? ⟨w.heap.size, 3, none⟩ = some (.slice t.R.a t.R.n t.R.c) := cell_of_block ZtW2.out 3 (by simp)
      have ltW2 := (Array.getElem?_eq_some_iff.1 ZtW2.out).1
      have em0W2 : W2.cell? ⟨w.heap.size + 1 + 1, 0, none⟩ = some (.int .i64 tlo) := cell_of_block ZmW2.out 0 (by simp)
      have em1W2 : W2.cell? ⟨w.heap.size + 1 + 1, 1, none⟩ = some (.int .i64 thi) := cell_of_block ZmW2.out 1 (by simp)
      have lmW2 := (Array.getElem?_eq_some_iff.1 ZmW2.out).1
      have ea0W2 : W2.cell? ⟨W1.heap.size + z1.bs.size, 0, none⟩ = some (.int .i64 al) := cell_of_block ZaW2.out 0 (by simp)
      have ea1W2 : W2.cell? ⟨W1.heap.size + z1.bs.size, 1, none⟩ = some (.int .i64 ah) := cell_of_block ZaW2.out 1 (by simp)
      have laW2 := (Array.getElem?_eq_some_iff.1 ZaW2.out).1
      go_wp2_with fail
      refine (Calls.grown (TB'.out _ (S2.out))).mono ?_
      rintro e w1 ⟨rfl, z2, rfl⟩
      go_wp2_with fail
      refine (Calls.gw_of (TE'.out _ (S2.out.trans ((below_gw W2 z2).mono S2.out.size)))).mono ?_
      rintro e w1 ⟨rfl, z3, rfl⟩
      go_wp2_with fail
      refine (Calls.gw_of (RS'.out _ (S2.out.trans ((below_gw W2 z3).mono S2.out.size)))).mono ?_
      rintro e w1 ⟨rfl, z4, rfl⟩
      go_upto_region 8 with (fail)
      obtain ⟨W3, hW3⟩ : ∃ W3, gw W2 z4 = W3 := ⟨_, rfl⟩
      have hbW3 : Below W2.heap.size W2 W3 := by rw [← hW3]; exact below_gw W2 z4
      have ZtW3 := Lib.hid ((hbW3.block _ (Array.getElem?_eq_some_iff.1 ZtW2.out).1).trans ZtW2.out)
      have ZxW3 := Lib.hid ((hbW3.block _ (Array.getElem?_eq_some_iff.1 ZxW2.out).1).trans ZxW2.out)
      have ZmW3 := Lib.hid ((hbW3.block _ (Array.getElem?_eq_some_iff.1 ZmW2.out).1).trans ZmW2.out)
      have ZaW3 := Lib.hid ((hbW3.block _ (Array.getElem?_eq_some_iff.1 ZaW2.out).1).trans ZaW2.out)
      have HBW3 := Lib.hid (thru hbW3 HBW2.out)
      have SBW3 := Lib.hid hbW3; clear hbW3
      have HWW3 := Lib.hid hW3; clear hW3
      rw [HWW3.out]
      clear et0W2 et1W2 et2W2 et3W2 em0W2 em1W2 ea0W2 ea1W2
      have S3 := Lib.hid (S2.out.trans (SBW3.out.mono S2.out.size))
      have et0W3 : W3.cell? ⟨w.heap.size, 0, none⟩ = some (.slice t.aT t.nT t.cT) := cell_of_block ZtW3.out 0 (by simp)
      have et1W3 : W3.cell? ⟨w.heap.size, 1, none⟩ = some (.slice t.aS t.nS t.cS) := cell_of_block ZtW3.out 1 (by simp)
      have et2W3 : W3.cell? ⟨w.heap.size, 2, none⟩ = some (.slice t.H.a t.H.n t.H.c) := cell_of_block ZtW3.out 2 (by simp)
      have et3W3 : W3.cell? ⟨w.heap.size, 3, none⟩ = some (.slice t.R.a t.R.n t.R.c) := cell_of_block ZtW3.out 3 (by simp)
      have ltW3 := (Array.getElem?_eq_some_iff.1 ZtW3.out).1
      have y1 := below_cell S3.out x1
      have y2 := below_cell S3.out x2
      have ly := Nat.lt_of_lt_of_le lS S3.out.size
      rw [EA.out] at et1W3
      refine wp_region_gw (by kernel_rfl) (by kernel_rfl) ?_
      repeat (go_big_quiet_step (fail))
      refine wpQuiet_nil ?_
      rintro _ ⟨z9, rfl⟩
      clear y1 y2 ly x1 x2 lS e1
      go_upto_region 9 with (fail)
      obtain ⟨W4, hW4⟩ : ∃ W4, gw W3 z9 = W4 := ⟨_, rfl⟩
      have hbW4 : Below W3.heap.size W3 W4 := by rw [← hW4]; exact below_gw W3 z9
      have ZtW4 := Lib.hid ((hbW4.block _ (Array.getElem?_eq_some_iff.1 ZtW3.out).1).trans ZtW3.out)
      have ZxW4 := Lib.hid ((hbW4.block _ (Array.getElem?_eq_some_iff.1 ZxW3.out).1).trans ZxW3.out)
      have ZmW4 := Lib.hid ((hbW4.block _ (Array.getElem?_eq_some_iff.1 ZmW3.out).1).trans ZmW3.out)
      have ZaW4 := Lib.hid ((hbW4.block _ (Array.getElem?_eq_some_iff.1 ZaW3.out).1).trans ZaW3.out)
      have HBW4 := Lib.hid (thru hbW4 HBW3.out)
      have SBW4 := Lib.hid hbW4; clear hbW4
      have HWW4 := Lib.hid hW4; clear hW4
      rw [HWW4.out]
      clear et0W3 et1W3 et2W3 et3W3
      have S4 := Lib.hid (S3.out.trans (SBW4.out.mono S3.out.size))
      have ex0W4 : W4.cell? ⟨w.heap.size + 1, 0, none⟩ = some (.int .i64 lo) := cell_of_block ZxW4.out 0 (by simp)
      have ex1W4 : W4.cell? ⟨w.heap.size + 1, 1, none⟩ = some (.int .i64 hi) := cell_of_block ZxW4.out 1 (by simp)
      have lxW4 := (Array.getElem?_eq_some_iff.1 ZxW4.out).1
      refine wp_region_box2 [true, true, true, true, true, true, true, true, true, true, false, false, false, false] 10 12 11 13 #[.int .i64 0, .int .i64 0] #[.int .i64 (clm lo), .int .i64 1] #[.int .i64 0, .int .i64 0] #[.int .i64 (clm hi), .int .i64 1] (by kernel_rfl) rfl rfl rfl rfl rfl (by kernel_rfl) rfl (by kernel_rfl) rfl (by kernel_rfl) rfl infoFr rfl rfl (by simp [Value.oneCell']) infoFr rfl rfl (by simp [Value.oneCell']) ?_
      apply Exists.intro
      refine ⟨fun S hS hx => ?_, ?_, ?_, ?_⟩
      · obtain ⟨x0, hx0⟩ := hx
        haveI : Nonempty (GrewS W4 S) := ⟨⟨x0, hx0⟩⟩
        simp only [pickM]
        repeat (go_big_quiet_step (fail))
        exact wpQuiet_nil rfl
      · rfl
      · rfl
      · intro Bp Bq vpq hq1 hq2 hq3 hk1 hk2 hbb
        have HKp := Lib.hid hk1; clear hk1
        have HKq := Lib.hid hk2; clear hk2
        have SBvpq := Lib.hid (hbb)
        have Ztvpq := Lib.hid ((SBvpq.out.block _ (Array.getElem?_eq_some_iff.1 ZtW4.out).1).trans ZtW4.out)
        have Zxvpq := Lib.hid ((SBvpq.out.block _ (Array.getElem?_eq_some_iff.1 ZxW4.out).1).trans ZxW4.out)
        have Zmvpq := Lib.hid ((SBvpq.out.block _ (Array.getElem?_eq_some_iff.1 ZmW4.out).1).trans ZmW4.out)
        have Zavpq := Lib.hid ((SBvpq.out.block _ (Array.getElem?_eq_some_iff.1 ZaW4.out).1).trans ZaW4.out)
        have HBvpq := Lib.hid (thru SBvpq.out HBW4.out)
        have Svpq := Lib.hid (S4.out.trans (SBvpq.out.mono S4.out.size))
        clear hbb
        go_upto_region 10 with (fail)
        simp only [Act.put, List.setIfInBounds_toArray, List.set_cons_succ, List.set_cons_zero]
        have et0vpq : vpq.cell? ⟨w.heap.size, 0, none⟩ = some (.slice t.aT t.nT t.cT) := cell_of_block Ztvpq.out 0 (by simp)
        have et1vpq : vpq.cell? ⟨w.heap.size, 1, none⟩ = some (.slice t.aS t.nS t.cS) := cell_of_block Ztvpq.out 1 (by simp)
        have et2vpq : vpq.cell? ⟨w.heap.size, 2, none⟩ = some (.slice t.H.a t.H.n t.H.c) := cell_of_block Ztvpq.out 2 (by simp)
        have et3vpq : vpq.cell? ⟨w.heap.size, 3, none⟩ = some (.slice t.R.a t.R.n t.R.c) := cell_of_block Ztvpq.out 3 (by simp)
        have ltvpq := (Array.getElem?_eq_some_iff.1 Ztvpq.out).1
        have ea0vpq : vpq.cell? ⟨W1.heap.size + z1.bs.size, 0, none⟩ = some (.int .i64 al) := cell_of_block Zavpq.out 0 (by simp)
        have ea1vpq : vpq.cell? ⟨W1.heap.size + z1.bs.size, 1, none⟩ = some (.int .i64 ah) := cell_of_block Zavpq.out 1 (by simp)
        have lavpq := (Array.getElem?_eq_some_iff.1 Zavpq.out).1
        have em0vpq : vpq.cell? ⟨w.heap.size + 1 + 1, 0, none⟩ = some (.int .i64 tlo) := cell_of_block Zmvpq.out 0 (by simp)
        have em1vpq : vpq.cell? ⟨w.heap.size + 1 + 1, 1, none⟩ = some (.int .i64 thi) := cell_of_block Zmvpq.out 1 (by simp)
        have lmvpq := (Array.getElem?_eq_some_iff.1 Zmvpq.out).1
        go_wp2_with fail
        refine (Calls.grown (E0'.out _ (Svpq.out))).mono ?_
        rintro e w1 ⟨rfl, z21, rfl⟩
        go_upto_region 11 with (fail)
        obtain ⟨W31, hW31⟩ : ∃ W31, (((gw vpq z21)).alloc (.cells #[.int .i64 ln0, .int .i64 ld0] 35)).alloc (.cells #[.int .i64 hn0, .int .i64 hd0] 35) = W31 := ⟨_, rfl⟩
        have hbW31 : Below vpq.heap.size vpq W31 := by rw [← hW31]; exact ((below_gw vpq z21).alloc (by simp [gw_size]) _).alloc (by simp [gw_size] <;> omega) _
        have ZtW31 := Lib.hid ((hbW31.block _ (Array.getElem?_eq_some_iff.1 Ztvpq.out).1).trans Ztvpq.out)
        have ZxW31 := Lib.hid ((hbW31.block _ (Array.getElem?_eq_some_iff.1 Zxvpq.out).1).trans Zxvpq.out)
        have ZmW31 := Lib.hid ((hbW31.block _ (Array.getElem?_eq_some_iff.1 Zmvpq.out).1).trans Zmvpq.out)
        have ZaW31 := Lib.hid ((hbW31.block _ (Array.getElem?_eq_some_iff.1 Zavpq.out).1).trans Zavpq.out)
        have ZpW31 := Lib.hid ((hbW31.block _ (Array.getElem?_eq_some_iff.1 HKp.out).1).trans HKp.out)
        have ZqW31 := Lib.hid ((hbW31.block _ (Array.getElem?_eq_some_iff.1 HKq.out).1).trans HKq.out)
        have zbW31 : W31.heap[vpq.heap.size + z21.bs.size]? = some (.cells #[.int .i64 ln0, .int .i64 ld0] 35 (0, 0)) := by rw [← hW31]; exact alloc_keep (alloc_at (by simp [gw_size]))
        have ZbW31 := Lib.hid zbW31; clear zbW31
        have zcW31 : W31.heap[vpq.heap.size + z21.bs.size + 1]? = some (.cells #[.int .i64 hn0, .int .i64 hd0] 35 (0, 0)) := by rw [← hW31]; exact alloc_at (by simp [gw_size] <;> omega)
        have ZcW31 := Lib.hid zcW31; clear zcW31
        have HBW31 := Lib.hid (thru hbW31 HBvpq.out)
        have SBW31 := Lib.hid hbW31; clear hbW31
        have HWW31 := Lib.hid hW31; clear hW31
        rw [HWW31.out]
        clear ex0W4 ex1W4 et0vpq et1vpq et2vpq et3vpq ea0vpq ea1vpq em0vpq em1vpq
        have S31 := Lib.hid (Svpq.out.trans (SBW31.out.mono Svpq.out.size))
        have et0W31 : W31.cell? ⟨w.heap.size, 0, none⟩ = some (.slice t.aT t.nT t.cT) := cell_of_block ZtW31.out 0 (by simp)
        have et1W31 : W31.cell? ⟨w.heap.size, 1, none⟩ = some (.slice t.aS t.nS t.cS) := cell_of_block ZtW31.out 1 (by simp)
        have et2W31 : W31.cell? ⟨w.heap.size, 2, none⟩ = some (.slice t.H.a t.H.n t.H.c) := cell_of_block ZtW31.out 2 (by simp)
        have et3W31 : W31.cell? ⟨w.heap.size, 3, none⟩ = some (.slice t.R.a t.R.n t.R.c) := cell_of_block ZtW31.out 3 (by simp)
        have ltW31 := (Array.getElem?_eq_some_iff.1 ZtW31.out).1
        have ea0W31 : W31.cell? ⟨W1.heap.size + z1.bs.size, 0, none⟩ = some (.int .i64 al) := cell_of_block ZaW31.out 0 (by simp)
        have ea1W31 : W31.cell? ⟨W1.heap.size + z1.bs.size, 1, none⟩ = some (.int .i64 ah) := cell_of_block ZaW31.out 1 (by simp)
        have laW31 := (Array.getElem?_eq_some_iff.1 ZaW31.out).1
        have em0W31 : W31.cell? ⟨w.heap.size + 1 + 1, 0, none⟩ = some (.int .i64 tlo) := cell_of_block ZmW31.out 0 (by simp)
        have em1W31 : W31.cell? ⟨w.heap.size + 1 + 1, 1, none⟩ = some (.int .i64 thi) := cell_of_block ZmW31.out 1 (by simp)
        have lmW31 := (Array.getElem?_eq_some_iff.1 ZmW31.out).1
        go_wp2_with fail
        refine (Calls.grown (E1'.out _ (S31.out))).mono ?_
        rintro e w1 ⟨rfl, z22, rfl⟩
        go_upto_region 12 with (fail)
        obtain ⟨W32, hW32⟩ : ∃ W32, (((gw W31 z22)).alloc (.cells #[.int .i64 ln1, .int .i64 ld1] 35)).alloc (.cells #[.int .i64 hn1, .int .i64 hd1] 35) = W32 := ⟨_, rfl⟩
        have hbW32 : Below W31.heap.size W31 W32 := by rw [← hW32]; exact ((below_gw W31 z22).alloc (by simp [gw_size]) _).alloc (by simp [gw_size] <;> omega) _
        have ZtW32 := Lib.hid ((hbW32.block _ (Array.getElem?_eq_some_iff.1 ZtW31.out).1).trans ZtW31.out)
        have ZxW32 := Lib.hid ((hbW32.block _ (Array.getElem?_eq_some_iff.1 ZxW31.out).1).trans ZxW31.out)
        have ZmW32 := Lib.hid ((hbW32.block _ (Array.getElem?_eq_some_iff.1 ZmW31.out).1).trans ZmW31.out)
        have ZaW32 := Lib.hid ((hbW32.block _ (Array.getElem?_eq_some_iff.1 ZaW31.out).1).trans ZaW31.out)
        have ZpW32 := Lib.hid ((hbW32.block _ (Array.getElem?_eq_some_iff.1 ZpW31.out).1).trans ZpW31.out)
        have ZqW32 := Lib.hid ((hbW32.block _ (Array.getElem?_eq_some_iff.1 ZqW31.out).1).trans ZqW31.out)
        have ZbW32 := Lib.hid ((hbW32.block _ (Array.getElem?_eq_some_iff.1 ZbW31.out).1).trans ZbW31.out)
        have ZcW32 := Lib.hid ((hbW32.block _ (Array.getElem?_eq_some_iff.1 ZcW31.out).1).trans ZcW31.out)
        have zdW32 : W32.heap[W31.heap.size + z22.bs.size]? = some (.cells #[.int .i64 ln1, .int .i64 ld1] 35 (0, 0)) := by rw [← hW32]; exact alloc_keep (alloc_at (by simp [gw_size]))
        have ZdW32 := Lib.hid zdW32; clear zdW32
        have zeW32 : W32.heap[W31.heap.size + z22.bs.size + 1]? = some (.cells #[.int .i64 hn1, .int .i64 hd1] 35 (0, 0)) := by rw [← hW32]; exact alloc_at (by simp [gw_size] <;> omega)
        have ZeW32 := Lib.hid zeW32; clear zeW32
        have HBW32 := Lib.hid (thru hbW32 HBW31.out)
        have SBW32 := Lib.hid hbW32; clear hbW32
        have HWW32 := Lib.hid hW32; clear hW32
        rw [HWW32.out]
        clear et0W31 et1W31 et2W31 et3W31 ea0W31 ea1W31 em0W31 em1W31
        have S32 := Lib.hid (S31.out.trans (SBW32.out.mono S31.out.size))
        have ea0W32 : W32.cell? ⟨W1.heap.size + z1.bs.size, 0, none⟩ = some (.int .i64 al) := cell_of_block ZaW32.out 0 (by simp)
        have ea1W32 : W32.cell? ⟨W1.heap.size + z1.bs.size, 1, none⟩ = some (.int .i64 ah) := cell_of_block ZaW32.out 1 (by simp)
        have laW32 := (Array.getElem?_eq_some_iff.1 ZaW32.out).1
        have ep0W32 : W32.cell? ⟨Bp, 0, none⟩ = some (.int .i64 (clm lo)) := cell_of_block ZpW32.out 0 (by simp)
        have ep1W32 : W32.cell? ⟨Bp, 1, none⟩ = some (.int .i64 1) := cell_of_block ZpW32.out 1 (by simp)
        have lpW32 := (Array.getElem?_eq_some_iff.1 ZpW32.out).1
        have ec0W32 : W32.cell? ⟨vpq.heap.size + z21.bs.size + 1, 0, none⟩ = some (.int .i64 hn0) := cell_of_block ZcW32.out 0 (by simp)
        have ec1W32 : W32.cell? ⟨vpq.heap.size + z21.bs.size + 1, 1, none⟩ = some (.int .i64 hd0) := cell_of_block ZcW32.out 1 (by simp)
        have lcW32 := (Array.getElem?_eq_some_iff.1 ZcW32.out).1
        have ee0W32 : W32.cell? ⟨W31.heap.size + z22.bs.size + 1, 0, none⟩ = some (.int .i64 hn1) := cell_of_block ZeW32.out 0 (by simp)
        have ee1W32 : W32.cell? ⟨W31.heap.size + z22.bs.size + 1, 1, none⟩ = some (.int .i64 hd1) := cell_of_block ZeW32.out 1 (by simp)
        have leW32 := (Array.getElem?_eq_some_iff.1 ZeW32.out).1
        by_cases A1 : s0 < al
        · have d1 : decide (s0 < al) = true := by simp [A1]
          have v1 := HT1.out A1
          simp only [v1] at L1
          clear A1
          cases v2 : ltF ⟨hn0, hd0⟩ ⟨clm lo, 1⟩ with
          | false =>
            simp only [v2] at L2
            clear v2
            go_wp2_with fail
            refine (Calls.grown (L1.out _)).mono ?_
            rintro e w1 ⟨rfl, z23, rfl⟩
            go_wp2_with fail
            refine (Calls.gw_of (L2.out _)).mono ?_
            rintro e w1 ⟨rfl, z24, rfl⟩
            go_upto_region 14 with (fail)
            obtain ⟨W33, hW33⟩ : ∃ W33, gw W32 z24 = W33 := ⟨_, rfl⟩
            have hbW33 : Below W32.heap.size W32 W33 := by rw [← hW33]; exact below_gw W32 z24
            have ZtW33 := Lib.hid ((hbW33.block _ (Array.getElem?_eq_some_iff.1 ZtW32.out).1).trans ZtW32.out)
            have ZxW33 := Lib.hid ((hbW33.block _ (Array.getElem?_eq_some_iff.1 ZxW32.out).1).trans ZxW32.out)
            have ZmW33 := Lib.hid ((hbW33.block _ (Array.getElem?_eq_some_iff.1 ZmW32.out).1).trans ZmW32.out)
            have ZaW33 := Lib.hid ((hbW33.block _ (Array.getElem?_eq_some_iff.1 ZaW32.out).1).trans ZaW32.out)
            have ZpW33 := Lib.hid ((hbW33.block _ (Array.getElem?_eq_some_iff.1 ZpW32.out).1).trans ZpW32.out)
            have ZqW33 := Lib.hid ((hbW33.block _ (Array.getElem?_eq_some_iff.1 ZqW32.out).1).trans ZqW32.out)
            have ZbW33 := Lib.hid ((hbW33.block _ (Array.getElem?_eq_some_iff.1 ZbW32.out).1).trans ZbW32.out)
            have ZcW33 := Lib.hid ((hbW33.block _ (Array.getElem?_eq_some_iff.1 ZcW32.out).1).trans ZcW32.out)
            have ZdW33 := Lib.hid ((hbW33.block _ (Array.getElem?_eq_some_iff.1 ZdW32.out).1).trans ZdW32.out)
            have ZeW33 := Lib.hid ((hbW33.block _ (Array.getElem?_eq_some_iff.1 ZeW32.out).1).trans ZeW32.out)
            have HBW33 := Lib.hid (thru hbW33 HBW32.out)
            have SBW33 := Lib.hid hbW33; clear hbW33
            have HWW33 := Lib.hid hW33; clear hW33
            rw [HWW33.out]
            clear ea0W32 ea1W32 ep0W32 ep1W32 ec0W32 ec1W32 ee0W32 ee1W32
            have S33 := Lib.hid (S32.out.trans (SBW33.out.mono S32.out.size))
            have et0W33 : W33.cell? ⟨w.heap.size, 0, none⟩ = some (.slice t.aT t.nT t.cT) := cell_of_block ZtW33.out 0 (by simp)
            have et1W33 : W33.cell? ⟨w.heap.size, 1, none⟩ = some (.slice t.aS t.nS t.cS) := cell_of_block ZtW33.out 1 (by simp)
            have et2W33 : W33.cell? ⟨w.heap.size, 2, none⟩ = some (.slice t.H.a t.H.n t.H.c) := cell_of_block ZtW33.out 2 (by simp)
            have et3W33 : W33.cell? ⟨w.heap.size, 3, none⟩ = some (.slice t.R.a t.R.n t.R.c) := cell_of_block ZtW33.out 3 (by simp)
            have ltW33 := (Array.getElem?_eq_some_iff.1 ZtW33.out).1
            have ea0W33 : W33.cell? ⟨W1.heap.size + z1.bs.size, 0, none⟩ = some (.int .i64 al) := cell_of_block ZaW33.out 0 (by simp)
            have ea1W33 : W33.cell? ⟨W1.heap.size + z1.bs.size, 1, none⟩ = some (.int .i64 ah) := cell_of_block ZaW33.out 1 (by simp)
            have laW33 := (Array.getElem?_eq_some_iff.1 ZaW33.out).1
            have em0W33 : W33.cell? ⟨w.heap.size + 1 + 1, 0, none⟩ = some (.int .i64 tlo) := cell_of_block ZmW33.out 0 (by simp)
            have em1W33 : W33.cell? ⟨w.heap.size + 1 + 1, 1, none⟩ = some (.int .i64 thi) := cell_of_block ZmW33.out 1 (by simp)
            have lmW33 := (Array.getElem?_eq_some_iff.1 ZmW33.out).1
            go_wp2_with fail
            refine (Calls.grown (E2'.out _ (S33.out))).mono ?_
            rintro e w1 ⟨rfl, z25, rfl⟩
            go_upto_region 15 with (fail)
            obtain ⟨W34, hW34⟩ : ∃ W34, (((gw W33 z25)).alloc (.cells #[.int .i64 ln2, .int .i64 ld2] 35)).alloc (.cells #[.int .i64 hn2, .int .i64 hd2] 35) = W34 := ⟨_, rfl⟩
            have hbW34 : Below W33.heap.size W33 W34 := by rw [← hW34]; exact ((below_gw W33 z25).alloc (by simp [gw_size]) _).alloc (by simp [gw_size] <;> omega) _
            have ZtW34 := Lib.hid ((hbW34.block _ (Array.getElem?_eq_some_iff.1 ZtW33.out).1).trans ZtW33.out)
            have ZxW34 := Lib.hid ((hbW34.block _ (Array.getElem?_eq_some_iff.1 ZxW33.out).1).trans ZxW33.out)
            have ZmW34 := Lib.hid ((hbW34.block _ (Array.getElem?_eq_some_iff.1 ZmW33.out).1).trans ZmW33.out)
            have ZaW34 := Lib.hid ((hbW34.block _ (Array.getElem?_eq_some_iff.1 ZaW33.out).1).trans ZaW33.out)
            have ZpW34 := Lib.hid ((hbW34.block _ (Array.getElem?_eq_some_iff.1 ZpW33.out).1).trans ZpW33.out)
            have ZqW34 := Lib.hid ((hbW34.block _ (Array.getElem?_eq_some_iff.1 ZqW33.out).1).trans ZqW33.out)
            have ZbW34 := Lib.hid ((hbW34.block _ (Array.getElem?_eq_some_iff.1 ZbW33.out).1).trans ZbW33.out)
            have ZcW34 := Lib.hid ((hbW34.block _ (Array.getElem?_eq_some_iff.1 ZcW33.out).1).trans ZcW33.out)
            have ZdW34 := Lib.hid ((hbW34.block _ (Array.getElem?_eq_some_iff.1 ZdW33.out).1).trans ZdW33.out)
            have ZeW34 := Lib.hid ((hbW34.block _ (Array.getElem?_eq_some_iff.1 ZeW33.out).1).trans ZeW33.out)
            have zfW34 : W34.heap[W33.heap.size + z25.bs.size]? = some (.cells #[.int .i64 ln2, .int .i64 ld2] 35 (0, 0)) := by rw [← hW34]; exact alloc_keep (alloc_at (by simp [gw_size]))
            have ZfW34 := Lib.hid zfW34; clear zfW34
            have zgW34 : W34.heap[W33.heap.size + z25.bs.size + 1]? = some (.cells #[.int .i64 hn2, .int .i64 hd2] 35 (0, 0)) := by rw [← hW34]; exact alloc_at (by simp [gw_size] <;> omega)
            have ZgW34 := Lib.hid zgW34; clear zgW34
            have HBW34 := Lib.hid (thru hbW34 HBW33.out)
            have SBW34 := Lib.hid hbW34; clear hbW34
            have HWW34 := Lib.hid hW34; clear hW34
            rw [HWW34.out]
            clear et0W33 et1W33 et2W33 et3W33 ea0W33 ea1W33 em0W33 em1W33
            have S34 := Lib.hid (S33.out.trans (SBW34.out.mono S33.out.size))
            have et0W34 : W34.cell? ⟨w.heap.size, 0, none⟩ = some (.slice t.aT t.nT t.cT) := cell_of_block ZtW34.out 0 (by simp)
            have et1W34 : W34.cell? ⟨w.heap.size, 1, none⟩ = some (.slice t.aS t.nS t.cS) := cell_of_block ZtW34.out 1 (by simp)
            have et2W34 : W34.cell? ⟨w.heap.size, 2, none⟩ = some (.slice t.H.a t.H.n t.H.c) := cell_of_block ZtW34.out 2 (by simp)
            have et3W34 : W34.cell? ⟨w.heap.size, 3, none⟩ = some (.slice t.R.a t.R.n t.R.c) := cell_of_block ZtW34.out 3 (by simp)
            have ltW34 := (Array.getElem?_eq_some_iff.1 ZtW34.out).1
            have ea0W34 : W34.cell? ⟨W1.heap.size + z1.bs.size, 0, none⟩ = some (.int .i64 al) := cell_of_block ZaW34.out 0 (by simp)
            have ea1W34 : W34.cell? ⟨W1.heap.size + z1.bs.size, 1, none⟩ = some (.int .i64 ah) := cell_of_block ZaW34.out 1 (by simp)
            have laW34 := (Array.getElem?_eq_some_iff.1 ZaW34.out).1
            have em0W34 : W34.cell? ⟨w.heap.size + 1 + 1, 0, none⟩ = some (.int .i64 tlo) := cell_of_block ZmW34.out 0 (by simp)
            have em1W34 : W34.cell? ⟨w.heap.size + 1 + 1, 1, none⟩ = some (.int .i64 thi) := cell_of_block ZmW34.out 1 (by simp)
            have lmW34 := (Array.getElem?_eq_some_iff.1 ZmW34.out).1
            go_wp2_with fail
            refine (Calls.grown (E3'.out _ (S34.out))).mono ?_
            rintro e w1 ⟨rfl, z26, rfl⟩
            go_upto_region 16 with (fail)
            obtain ⟨W35, hW35⟩ : ∃ W35, (((gw W34 z26)).alloc (.cells #[.int .i64 ln3, .int .i64 ld3] 35)).alloc (.cells #[.int .i64 hn3, .int .i64 hd3] 35) = W35 := ⟨_, rfl⟩
            have hbW35 : Below W34.heap.size W34 W35 := by rw [← hW35]; exact ((below_gw W34 z26).alloc (by simp [gw_size]) _).alloc (by simp [gw_size] <;> omega) _
            have ZtW35 := Lib.hid ((hbW35.block _ (Array.getElem?_eq_some_iff.1 ZtW34.out).1).trans ZtW34.out)
            have ZxW35 := Lib.hid ((hbW35.block _ (Array.getElem?_eq_some_iff.1 ZxW34.out).1).trans ZxW34.out)
            have ZmW35 := Lib.hid ((hbW35.block _ (Array.getElem?_eq_some_iff.1 ZmW34.out).1).trans ZmW34.out)
            have ZaW35 := Lib.hid ((hbW35.block _ (Array.getElem?_eq_some_iff.1 ZaW34.out).1).trans ZaW34.out)
            have ZpW35 := Lib.hid ((hbW35.block _ (Array.getElem?_eq_some_iff.1 ZpW34.out).1).trans ZpW34.out)
            have ZqW35 := Lib.hid ((hbW35.block _ (Array.getElem?_eq_some_iff.1 ZqW34.out).1).trans ZqW34.out)
            have ZbW35 := Lib.hid ((hbW35.block _ (Array.getElem?_eq_some_iff.1 ZbW34.out).1).trans ZbW34.out)
            have ZcW35 := Lib.hid ((hbW35.block _ (Array.getElem?_eq_some_iff.1 ZcW34.out).1).trans ZcW34.out)
            have ZdW35 := Lib.hid ((hbW35.block _ (Array.getElem?_eq_some_iff.1 ZdW34.out).1).trans ZdW34.out)
            have ZeW35 := Lib.hid ((hbW35.block _ (Array.getElem?_eq_some_iff.1 ZeW34.out).1).trans ZeW34.out)
            have ZfW35 := Lib.hid ((hbW35.block _ (Array.getElem?_eq_some_iff.1 ZfW34.out).1).trans ZfW34.out)
            have ZgW35 := Lib.hid ((hbW35.block _ (Array.getElem?_eq_some_iff.1 ZgW34.out).1).trans ZgW34.out)
            have zhW35 : W35.heap[W34.heap.size + z26.bs.size]? = some (.cells #[.int .i64 ln3, .int .i64 ld3] 35 (0, 0)) := by rw [← hW35]; exact alloc_keep (alloc_at (by simp [gw_size]))
            have ZhW35 := Lib.hid zhW35; clear zhW35
            have ziW35 : W35.heap[W34.heap.size + z26.bs.size + 1]? = some (.cells #[.int .i64 hn3, .int .i64 hd3] 35 (0, 0)) := by rw [← hW35]; exact alloc_at (by simp [gw_size] <;> omega)
            have ZiW35 := Lib.hid ziW35; clear ziW35
            have HBW35 := Lib.hid (thru hbW35 HBW34.out)
            have SBW35 := Lib.hid hbW35; clear hbW35
            have HWW35 := Lib.hid hW35; clear hW35
            rw [HWW35.out]
            clear et0W34 et1W34 et2W34 et3W34 ea0W34 ea1W34 em0W34 em1W34
            have S35 := Lib.hid (S34.out.trans (SBW35.out.mono S34.out.size))
            have ea0W35 : W35.cell? ⟨W1.heap.size + z1.bs.size, 0, none⟩ = some (.int .i64 al) := cell_of_block ZaW35.out 0 (by simp)
            have ea1W35 : W35.cell? ⟨W1.heap.size + z1.bs.size, 1, none⟩ = some (.int .i64 ah) := cell_of_block ZaW35.out 1 (by simp)
            have laW35 := (Array.getElem?_eq_some_iff.1 ZaW35.out).1
            have eq0W35 : W35.cell? ⟨Bq, 0, none⟩ = some (.int .i64 (clm hi)) := cell_of_block ZqW35.out 0 (by simp)
            have eq1W35 : W35.cell? ⟨Bq, 1, none⟩ = some (.int .i64 1) := cell_of_block ZqW35.out 1 (by simp)
            have lqW35 := (Array.getElem?_eq_some_iff.1 ZqW35.out).1
            have ef0W35 : W35.cell? ⟨W33.heap.size + z25.bs.size, 0, none⟩ = some (.int .i64 ln2) := cell_of_block ZfW35.out 0 (by simp)
            have ef1W35 : W35.cell? ⟨W33.heap.size + z25.bs.size, 1, none⟩ = some (.int .i64 ld2) := cell_of_block ZfW35.out 1 (by simp)
            have lfW35 := (Array.getElem?_eq_some_iff.1 ZfW35.out).1
            have eh0W35 : W35.cell? ⟨W34.heap.size + z26.bs.size, 0, none⟩ = some (.int .i64 ln3) := cell_of_block ZhW35.out 0 (by simp)
            have eh1W35 : W35.cell? ⟨W34.heap.size + z26.bs.size, 1, none⟩ = some (.int .i64 ld3) := cell_of_block ZhW35.out 1 (by simp)
            have lhW35 := (Array.getElem?_eq_some_iff.1 ZhW35.out).1
            by_cases A2 : ah < s1
            · have d2 : decide (ah < s1) = true := by simp [A2]
              have v4 := HT3.out A2
              simp only [v4] at L4
              clear A2
              cases v5 : ltF ⟨clm hi, 1⟩ ⟨ln2, ld2⟩ with
              | false =>
                simp only [v5] at L5
                clear v5
                go_wp2_with fail
                refine (Calls.grown (L4.out _)).mono ?_
                rintro e w1 ⟨rfl, z27, rfl⟩
                go_wp2_with fail
                refine (Calls.gw_of (L5.out _)).mono ?_
                rintro e w1 ⟨rfl, z28, rfl⟩
                go_wp2_with fail
                refine (Calls.gw_of (alive_any _)).mono ?_
                rintro e w1 ⟨rfl, z29, rfl⟩
                go_wp2_with fail
                go_ret
                exact ⟨rfl, HBW35.out.gw z29⟩
              | true =>
                have v6 := HT4.out v5
                simp only [v6] at L6
                simp only [v5] at L5
                clear v5
                go_wp2_with fail
                refine (Calls.grown (L4.out _)).mono ?_
                rintro e w1 ⟨rfl, z27, rfl⟩
                go_wp2_with fail
                refine (Calls.gw_of (L5.out _)).mono ?_
                rintro e w1 ⟨rfl, z28, rfl⟩
                go_wp2_with fail
                refine (Calls.gw_of (L6.out _)).mono ?_
                rintro e w1 ⟨rfl, z29, rfl⟩
                go_wp2_with fail
                refine (Calls.gw_of (alive_any _)).mono ?_
                rintro e w1 ⟨rfl, z30, rfl⟩
                go_wp2_with fail
                go_ret
                exact ⟨rfl, HBW35.out.gw z30⟩
            · have d2 : decide (ah < s1) = false := by simp; omega
              clear A2
              cases v5 : ltF ⟨clm hi, 1⟩ ⟨ln2, ld2⟩ with
              | false =>
                simp only [v5] at L5
                clear v5
                go_wp2_with fail
                refine (Calls.grown (L5.out _)).mono ?_
                rintro e w1 ⟨rfl, z27, rfl⟩
                go_wp2_with fail
                refine (Calls.gw_of (alive_any _)).mono ?_
                rintro e w1 ⟨rfl, z28, rfl⟩
                go_wp2_with fail
                go_ret
                exact ⟨rfl, HBW35.out.gw z28⟩
              | true =>
                have v6 := HT4.out v5
                simp only [v6] at L6
                simp only [v5] at L5
                clear v5
                go_wp2_with fail
                refine (Calls.grown (L5.out _)).mono ?_
                rintro e w1 ⟨rfl, z27, rfl⟩
                go_wp2_with fail
                refine (Calls.gw_of (L6.out _)).mono ?_
                rintro e w1 ⟨rfl, z28, rfl⟩
                go_wp2_with fail
                refine (Calls.gw_of (alive_any _)).mono ?_
                rintro e w1 ⟨rfl, z29, rfl⟩
                go_wp2_with fail
                go_ret
                exact ⟨rfl, HBW35.out.gw z29⟩
          | true =>
            have v3 := HT2.out v2
            simp only [v3] at L3
            simp only [v2] at L2
            clear v2
            go_wp2_with fail
            refine (Calls.grown (L1.out _)).mono ?_
            rintro e w1 ⟨rfl, z23, rfl⟩
            go_wp2_with fail
            refine (Calls.gw_of (L2.out _)).mono ?_
            rintro e w1 ⟨rfl, z24, rfl⟩
            go_wp2_with fail
            refine (Calls.gw_of (L3.out _)).mono ?_
            rintro e w1 ⟨rfl, z25, rfl⟩
            go_upto_region 14 with (fail)
            obtain ⟨W33, hW33⟩ : ∃ W33, gw W32 z25 = W33 := ⟨_, rfl⟩
            have hbW33 : Below W32.heap.size W32 W33 := by rw [← hW33]; exact below_gw W32 z25
            have ZtW33 := Lib.hid ((hbW33.block _ (Array.getElem?_eq_some_iff.1 ZtW32.out).1).trans ZtW32.out)
            have ZxW33 := Lib.hid ((hbW33.block _ (Array.getElem?_eq_some_iff.1 ZxW32.out).1).trans ZxW32.out)
            have ZmW33 := Lib.hid ((hbW33.block _ (Array.getElem?_eq_some_iff.1 ZmW32.out).1).trans ZmW32.out)
            have ZaW33 := Lib.hid ((hbW33.block _ (Array.getElem?_eq_some_iff.1 ZaW32.out).1).trans ZaW32.out)
            have ZpW33 := Lib.hid ((hbW33.block _ (Array.getElem?_eq_some_iff.1 ZpW32.out).1).trans ZpW32.out)
            have ZqW33 := Lib.hid ((hbW33.block _ (Array.getElem?_eq_some_iff.1 ZqW32.out).1).trans ZqW32.out)
            have ZbW33 := Lib.hid ((hbW33.block _ (Array.getElem?_eq_some_iff.1 ZbW32.out).1).trans ZbW32.out)
            have ZcW33 := Lib.hid ((hbW33.block _ (Array.getElem?_eq_some_iff.1 ZcW32.out).1).trans ZcW32.out)
            have ZdW33 := Lib.hid ((hbW33.block _ (Array.getElem?_eq_some_iff.1 ZdW32.out).1).trans ZdW32.out)
            have ZeW33 := Lib.hid ((hbW33.block _ (Array.getElem?_eq_some_iff.1 ZeW32.out).1).trans ZeW32.out)
            have HBW33 := Lib.hid (thru hbW33 HBW32.out)
            have SBW33 := Lib.hid hbW33; clear hbW33
            have HWW33 := Lib.hid hW33; clear hW33
            rw [HWW33.out]
            clear ea0W32 ea1W32 ep0W32 ep1W32 ec0W32 ec1W32 ee0W32 ee1W32
            have S33 := Lib.hid (S32.out.trans (SBW33.out.mono S32.out.size))
            have et0W33 : W33.cell? ⟨w.heap.size, 0, none⟩ = some (.slice t.aT t.nT t.cT) := cell_of_block ZtW33.out 0 (by simp)
            have et1W33 : W33.cell? ⟨w.heap.size, 1, none⟩ = some (.slice t.aS t.nS t.cS) := cell_of_block ZtW33.out 1 (by simp)
            have et2W33 : W33.cell? ⟨w.heap.size, 2, none⟩ = some (.slice t.H.a t.H.n t.H.c) := cell_of_block ZtW33.out 2 (by simp)
            have et3W33 : W33.cell? ⟨w.heap.size, 3, none⟩ = some (.slice t.R.a t.R.n t.R.c) := cell_of_block ZtW33.out 3 (by simp)
            have ltW33 := (Array.getElem?_eq_some_iff.1 ZtW33.out).1
            have ea0W33 : W33.cell? ⟨W1.heap.size + z1.bs.size, 0, none⟩ = some (.int .i64 al) := cell_of_block ZaW33.out 0 (by simp)
            have ea1W33 : W33.cell? ⟨W1.heap.size + z1.bs.size, 1, none⟩ = some (.int .i64 ah) := cell_of_block ZaW33.out 1 (by simp)
            have laW33 := (Array.getElem?_eq_some_iff.1 ZaW33.out).1
            have em0W33 : W33.cell? ⟨w.heap.size + 1 + 1, 0, none⟩ = some (.int .i64 tlo) := cell_of_block ZmW33.out 0 (by simp)
            have em1W33 : W33.cell? ⟨w.heap.size + 1 + 1, 1, none⟩ = some (.int .i64 thi) := cell_of_block ZmW33.out 1 (by simp)
            have lmW33 := (Array.getElem?_eq_some_iff.1 ZmW33.out).1
            go_wp2_with fail
            refine (Calls.grown (E2'.out _ (S33.out))).mono ?_
            rintro e w1 ⟨rfl, z26, rfl⟩
            go_upto_region 15 with (fail)
            obtain ⟨W34, hW34⟩ : ∃ W34, (((gw W33 z26)).alloc (.cells #[.int .i64 ln2, .int .i64 ld2] 35)).alloc (.cells #[.int .i64 hn2, .int .i64 hd2] 35) = W34 := ⟨_, rfl⟩
            have hbW34 : Below W33.heap.size W33 W34 := by rw [← hW34]; exact ((below_gw W33 z26).alloc (by simp [gw_size]) _).alloc (by simp [gw_size] <;> omega) _
            have ZtW34 := Lib.hid ((hbW34.block _ (Array.getElem?_eq_some_iff.1 ZtW33.out).1).trans ZtW33.out)
            have ZxW34 := Lib.hid ((hbW34.block _ (Array.getElem?_eq_some_iff.1 ZxW33.out).1).trans ZxW33.out)
            have ZmW34 := Lib.hid ((hbW34.block _ (Array.getElem?_eq_some_iff.1 ZmW33.out).1).trans ZmW33.out)
            have ZaW34 := Lib.hid ((hbW34.block _ (Array.getElem?_eq_some_iff.1 ZaW33.out).1).trans ZaW33.out)
            have ZpW34 := Lib.hid ((hbW34.block _ (Array.getElem?_eq_some_iff.1 ZpW33.out).1).trans ZpW33.out)
            have ZqW34 := Lib.hid ((hbW34.block _ (Array.getElem?_eq_some_iff.1 ZqW33.out).1).trans ZqW33.out)
            have ZbW34 := Lib.hid ((hbW34.block _ (Array.getElem?_eq_some_iff.1 ZbW33.out).1).trans ZbW33.out)
            have ZcW34 := Lib.hid ((hbW34.block _ (Array.getElem?_eq_some_iff.1 ZcW33.out).1).trans ZcW33.out)
            have ZdW34 := Lib.hid ((hbW34.block _ (Array.getElem?_eq_some_iff.1 ZdW33.out).1).trans ZdW33.out)
            have ZeW34 := Lib.hid ((hbW34.block _ (Array.getElem?_eq_some_iff.1 ZeW33.out).1).trans ZeW33.out)
            have zfW34 : W34.heap[W33.heap.size + z26.bs.size]? = some (.cells #[.int .i64 ln2, .int .i64 ld2] 35 (0, 0)) := by rw [← hW34]; exact alloc_keep (alloc_at (by simp [gw_size]))
            have ZfW34 := Lib.hid zfW34; clear zfW34
            have zgW34 : W34.heap[W33.heap.size + z26.bs.size + 1]? = some (.cells #[.int .i64 hn2, .int .i64 hd2] 35 (0, 0)) := by rw [← hW34]; exact alloc_at (by simp [gw_size] <;> omega)
            have ZgW34 := Lib.hid zgW34; clear zgW34
            have HBW34 := Lib.hid (thru hbW34 HBW33.out)
            have SBW34 := Lib.hid hbW34; clear hbW34
            have HWW34 := Lib.hid hW34; clear hW34
            rw [HWW34.out]
            clear et0W33 et1W33 et2W33 et3W33 ea0W33 ea1W33 em0W33 em1W33
            have S34 := Lib.hid (S33.out.trans (SBW34.out.mono S33.out.size))
            have et0W34 : W34.cell? ⟨w.heap.size, 0, none⟩ = some (.slice t.aT t.nT t.cT) := cell_of_block ZtW34.out 0 (by simp)
            have et1W34 : W34.cell? ⟨w.heap.size, 1, none⟩ = some (.slice t.aS t.nS t.cS) := cell_of_block ZtW34.out 1 (by simp)
            have et2W34 : W34.cell? ⟨w.heap.size, 2, none⟩ = some (.slice t.H.a t.H.n t.H.c) := cell_of_block ZtW34.out 2 (by simp)
            have et3W34 : W34.cell? ⟨w.heap.size, 3, none⟩ = some (.slice t.R.a t.R.n t.R.c) := cell_of_block ZtW34.out 3 (by simp)
            have ltW34 := (Array.getElem?_eq_some_iff.1 ZtW34.out).1
            have ea0W34 : W34.cell? ⟨W1.heap.size + z1.bs.size, 0, none⟩ = some (.int .i64 al) := cell_of_block ZaW34.out 0 (by simp)
            have ea1W34 : W34.cell? ⟨W1.heap.size + z1.bs.size, 1, none⟩ = some (.int .i64 ah) := cell_of_block ZaW34.out 1 (by simp)
            have laW34 := (Array.getElem?_eq_some_iff.1 ZaW34.out).1
            have em0W34 : W34.cell? ⟨w.heap.size + 1 + 1, 0, none⟩ = some (.int .i64 tlo) := cell_of_block ZmW34.out 0 (by simp)
            have em1W34 : W34.cell? ⟨w.heap.size + 1 + 1, 1, none⟩ = some (.int .i64 thi) := cell_of_block ZmW34.out 1 (by simp)
            have lmW34 := (Array.getElem?_eq_some_iff.1 ZmW34.out).1
            go_wp2_with fail
            refine (Calls.grown (E3'.out _ (S34.out))).mono ?_
            rintro e w1 ⟨rfl, z27, rfl⟩
            go_upto_region 16 with (fail)
            obtain ⟨W35, hW35⟩ : ∃ W35, (((gw W34 z27)).alloc (.cells #[.int .i64 ln3, .int .i64 ld3] 35)).alloc (.cells #[.int .i64 hn3, .int .i64 hd3] 35) = W35 := ⟨_, rfl⟩
            have hbW35 : Below W34.heap.size W34 W35 := by rw [← hW35]; exact ((below_gw W34 z27).alloc (by simp [gw_size]) _).alloc (by simp [gw_size] <;> omega) _
            have ZtW35 := Lib.hid ((hbW35.block _ (Array.getElem?_eq_some_iff.1 ZtW34.out).1).trans ZtW34.out)
            have ZxW35 := Lib.hid ((hbW35.block _ (Array.getElem?_eq_some_iff.1 ZxW34.out).1).trans ZxW34.out)
            have ZmW35 := Lib.hid ((hbW35.block _ (Array.getElem?_eq_some_iff.1 ZmW34.out).1).trans ZmW34.out)
            have ZaW35 := Lib.hid ((hbW35.block _ (Array.getElem?_eq_some_iff.1 ZaW34.out).1).trans ZaW34.out)
            have ZpW35 := Lib.hid ((hbW35.block _ (Array.getElem?_eq_some_iff.1 ZpW34.out).1).trans ZpW34.out)
            have ZqW35 := Lib.hid ((hbW35.block _ (Array.getElem?_eq_some_iff.1 ZqW34.out).1).trans ZqW34.out)
            have ZbW35 := Lib.hid ((hbW35.block _ (Array.getElem?_eq_some_iff.1 ZbW34.out).1).trans ZbW34.out)
            have ZcW35 := Lib.hid ((hbW35.block _ (Array.getElem?_eq_some_iff.1 ZcW34.out).1).trans ZcW34.out)
            have ZdW35 := Lib.hid ((hbW35.block _ (Array.getElem?_eq_some_iff.1 ZdW34.out).1).trans ZdW34.out)
            have ZeW35 := Lib.hid ((hbW35.block _ (Array.getElem?_eq_some_iff.1 ZeW34.out).1).trans ZeW34.out)
            have ZfW35 := Lib.hid ((hbW35.block _ (Array.getElem?_eq_some_iff.1 ZfW34.out).1).trans ZfW34.out)
            have ZgW35 := Lib.hid ((hbW35.block _ (Array.getElem?_eq_some_iff.1 ZgW34.out).1).trans ZgW34.out)
            have zhW35 : W35.heap[W34.heap.size + z27.bs.size]? = some (.cells #[.int .i64 ln3, .int .i64 ld3] 35 (0, 0)) := by rw [← hW35]; exact alloc_keep (alloc_at (by simp [gw_size]))
            have ZhW35 := Lib.hid zhW35; clear zhW35
            have ziW35 : W35.heap[W34.heap.size + z27.bs.size + 1]? = some (.cells #[.int .i64 hn3, .int .i64 hd3] 35 (0, 0)) := by rw [← hW35]; exact alloc_at (by simp [gw_size] <;> omega)
            have ZiW35 := Lib.hid ziW35; clear ziW35
            have HBW35 := Lib.hid (thru hbW35 HBW34.out)
            have SBW35 := Lib.hid hbW35; clear hbW35
            have HWW35 := Lib.hid hW35; clear hW35
            rw [HWW35.out]
            clear et0W34 et1W34 et2W34 et3W34 ea0W34 ea1W34 em0W34 em1W34
            have S35 := Lib.hid (S34.out.trans (SBW35.out.mono S34.out.size))
            have ea0W35 : W35.cell? ⟨W1.heap.size + z1.bs.size, 0, none⟩ = some (.int .i64 al) := cell_of_block ZaW35.out 0 (by simp)
            have ea1W35 : W35.cell? ⟨W1.heap.size + z1.bs.size, 1, none⟩ = some (.int .i64 ah) := cell_of_block ZaW35.out 1 (by simp)
            have laW35 := (Array.getElem?_eq_some_iff.1 ZaW35.out).1
            have eq0W35 : W35.cell? ⟨Bq, 0, none⟩ = some (.int .i64 (clm hi)) := cell_of_block ZqW35.out 0 (by simp)
            have eq1W35 : W35.cell? ⟨Bq, 1, none⟩ = some (.int .i64 1) := cell_of_block ZqW35.out 1 (by simp)
            have lqW35 := (Array.getElem?_eq_some_iff.1 ZqW35.out).1
            have ef0W35 : W35.cell? ⟨W33.heap.size + z26.bs.size, 0, none⟩ = some (.int .i64 ln2) := cell_of_block ZfW35.out 0 (by simp)
            have ef1W35 : W35.cell? ⟨W33.heap.size + z26.bs.size, 1, none⟩ = some (.int .i64 ld2) := cell_of_block ZfW35.out 1 (by simp)
            have lfW35 := (Array.getElem?_eq_some_iff.1 ZfW35.out).1
            have eh0W35 : W35.cell? ⟨W34.heap.size + z27.bs.size, 0, none⟩ = some (.int .i64 ln3) := cell_of_block ZhW35.out 0 (by simp)
            have eh1W35 : W35.cell? ⟨W34.heap.size + z27.bs.size, 1, none⟩ = some (.int .i64 ld3) := cell_of_block ZhW35.out 1 (by simp)
            have lhW35 := (Array.getElem?_eq_some_iff.1 ZhW35.out).1
            by_cases A2 : ah < s1
            · have d2 : decide (ah < s1) = true := by simp [A2]
              have v4 := HT3.out A2
              simp only [v4] at L4
              clear A2
              cases v5 : ltF ⟨clm hi, 1⟩ ⟨ln2, ld2⟩ with
              | false =>
                simp only [v5] at L5
                clear v5
                go_wp2_with fail
                refine (Calls.grown (L4.out _)).mono ?_
                rintro e w1 ⟨rfl, z28, rfl⟩
                go_wp2_with fail
                refine (Calls.gw_of (L5.out _)).mono ?_
                rintro e w1 ⟨rfl, z29, rfl⟩
                go_wp2_with fail
                refine (Calls.gw_of (alive_any _)).mono ?_
                rintro e w1 ⟨rfl, z30, rfl⟩
                go_wp2_with fail
                go_ret
                exact ⟨rfl, HBW35.out.gw z30⟩
              | true =>
                have v6 := HT4.out v5
                simp only [v6] at L6
                simp only [v5] at L5
                clear v5
                go_wp2_with fail
                refine (Calls.grown (L4.out _)).mono ?_
                rintro e w1 ⟨rfl, z28, rfl⟩
                go_wp2_with fail
                refine (Calls.gw_of (L5.out _)).mono ?_
                rintro e w1 ⟨rfl, z29, rfl⟩
                go_wp2_with fail
                refine (Calls.gw_of (L6.out _)).mono ?_
                rintro e w1 ⟨rfl, z30, rfl⟩
                go_wp2_with fail
                refine (Calls.gw_of (alive_any _)).mono ?_
                rintro e w1 ⟨rfl, z31, rfl⟩
                go_wp2_with fail
                go_ret
                exact ⟨rfl, HBW35.out.gw z31⟩
            · have d2 : decide (ah < s1) = false := by simp; omega
              clear A2
              cases v5 : ltF ⟨clm hi, 1⟩ ⟨ln2, ld2⟩ with
              | false =>
                simp only [v5] at L5
                clear v5
                go_wp2_with fail
                refine (Calls.grown (L5.out _)).mono ?_
                rintro e w1 ⟨rfl, z28, rfl⟩
                go_wp2_with fail
                refine (Calls.gw_of (alive_any _)).mono ?_
                rintro e w1 ⟨rfl, z29, rfl⟩
                go_wp2_with fail
                go_ret
                exact ⟨rfl, HBW35.out.gw z29⟩
              | true =>
                have v6 := HT4.out v5
                simp only [v6] at L6
                simp only [v5] at L5
                clear v5
                go_wp2_with fail
                refine (Calls.grown (L5.out _)).mono ?_
                rintro e w1 ⟨rfl, z28, rfl⟩
                go_wp2_with fail
                refine (Calls.gw_of (L6.out _)).mono ?_
                rintro e w1 ⟨rfl, z29, rfl⟩
                go_wp2_with fail
                refine (Calls.gw_of (alive_any _)).mono ?_
                rintro e w1 ⟨rfl, z30, rfl⟩
                go_wp2_with fail
                go_ret
                exact ⟨rfl, HBW35.out.gw z30⟩
        · have d1 : decide (s0 < al) = false := by simp; omega
          clear A1
          cases v2 : ltF ⟨hn0, hd0⟩ ⟨clm lo, 1⟩ with
          | false =>
            simp only [v2] at L2
            clear v2
            go_wp2_with fail
            refine (Calls.grown (L2.out _)).mono ?_
            rintro e w1 ⟨rfl, z23, rfl⟩
            go_upto_region 14 with (fail)
            obtain ⟨W33, hW33⟩ : ∃ W33, gw W32 z23 = W33 := ⟨_, rfl⟩
            have hbW33 : Below W32.heap.size W32 W33 := by rw [← hW33]; exact below_gw W32 z23
            have ZtW33 := Lib.hid ((hbW33.block _ (Array.getElem?_eq_some_iff.1 ZtW32.out).1).trans ZtW32.out)
            have ZxW33 := Lib.hid ((hbW33.block _ (Array.getElem?_eq_some_iff.1 ZxW32.out).1).trans ZxW32.out)
            have ZmW33 := Lib.hid ((hbW33.block _ (Array.getElem?_eq_some_iff.1 ZmW32.out).1).trans ZmW32.out)
            have ZaW33 := Lib.hid ((hbW33.block _ (Array.getElem?_eq_some_iff.1 ZaW32.out).1).trans ZaW32.out)
            have ZpW33 := Lib.hid ((hbW33.block _ (Array.getElem?_eq_some_iff.1 ZpW32.out).1).trans ZpW32.out)
            have ZqW33 := Lib.hid ((hbW33.block _ (Array.getElem?_eq_some_iff.1 ZqW32.out).1).trans ZqW32.out)
            have ZbW33 := Lib.hid ((hbW33.block _ (Array.getElem?_eq_some_iff.1 ZbW32.out).1).trans ZbW32.out)
            have ZcW33 := Lib.hid ((hbW33.block _ (Array.getElem?_eq_some_iff.1 ZcW32.out).1).trans ZcW32.out)
            have ZdW33 := Lib.hid ((hbW33.block _ (Array.getElem?_eq_some_iff.1 ZdW32.out).1).trans ZdW32.out)
            have ZeW33 := Lib.hid ((hbW33.block _ (Array.getElem?_eq_some_iff.1 ZeW32.out).1).trans ZeW32.out)
            have HBW33 := Lib.hid (thru hbW33 HBW32.out)
            have SBW33 := Lib.hid hbW33; clear hbW33
            have HWW33 := Lib.hid hW33; clear hW33
            rw [HWW33.out]
            clear ea0W32 ea1W32 ep0W32 ep1W32 ec0W32 ec1W32 ee0W32 ee1W32
            have S33 := Lib.hid (S32.out.trans (SBW33.out.mono S32.out.size))
            have et0W33 : W33.cell? ⟨w.heap.size, 0, none⟩ = some (.slice t.aT t.nT t.cT) := cell_of_block ZtW33.out 0 (by simp)
            have et1W33 : W33.cell? ⟨w.heap.size, 1, none⟩ = some (.slice t.aS t.nS t.cS) := cell_of_block ZtW33.out 1 (by simp)
            have et2W33 : W33.cell? ⟨w.heap.size, 2, none⟩ = some (.slice t.H.a t.H.n t.H.c) := cell_of_block ZtW33.out 2 (by simp)
            have et3W33 : W33.cell? ⟨w.heap.size, 3, none⟩ = some (.slice t.R.a t.R.n t.R.c) := cell_of_block ZtW33.out 3 (by simp)
            have ltW33 := (Array.getElem?_eq_some_iff.1 ZtW33.out).1
            have ea0W33 : W33.cell? ⟨W1.heap.size + z1.bs.size, 0, none⟩ = some (.int .i64 al) := cell_of_block ZaW33.out 0 (by simp)
            have ea1W33 : W33.cell? ⟨W1.heap.size + z1.bs.size, 1, none⟩ = some (.int .i64 ah) := cell_of_block ZaW33.out 1 (by simp)
            have laW33 := (Array.getElem?_eq_some_iff.1 ZaW33.out).1
            have em0W33 : W33.cell? ⟨w.heap.size + 1 + 1, 0, none⟩ = some (.int .i64 tlo) := cell_of_block ZmW33.out 0 (by simp)
            have em1W33 : W33.cell? ⟨w.heap.size + 1 + 1, 1, none⟩ = some (.int .i64 thi) := cell_of_block ZmW33.out 1 (by simp)
            have lmW33 := (Array.getElem?_eq_some_iff.1 ZmW33.out).1
            go_wp2_with fail
            refine (Calls.grown (E2'.out _ (S33.out))).mono ?_
            rintro e w1 ⟨rfl, z24, rfl⟩
            go_upto_region 15 with (fail)
            obtain ⟨W34, hW34⟩ : ∃ W34, (((gw W33 z24)).alloc (.cells #[.int .i64 ln2, .int .i64 ld2] 35)).alloc (.cells #[.int .i64 hn2, .int .i64 hd2] 35) = W34 := ⟨_, rfl⟩
            have hbW34 : Below W33.heap.size W33 W34 := by rw [← hW34]; exact ((below_gw W33 z24).alloc (by simp [gw_size]) _).alloc (by simp [gw_size] <;> omega) _
            have ZtW34 := Lib.hid ((hbW34.block _ (Array.getElem?_eq_some_iff.1 ZtW33.out).1).trans ZtW33.out)
            have ZxW34 := Lib.hid ((hbW34.block _ (Array.getElem?_eq_some_iff.1 ZxW33.out).1).trans ZxW33.out)
            have ZmW34 := Lib.hid ((hbW34.block _ (Array.getElem?_eq_some_iff.1 ZmW33.out).1).trans ZmW33.out)
            have ZaW34 := Lib.hid ((hbW34.block _ (Array.getElem?_eq_some_iff.1 ZaW33.out).1).trans ZaW33.out)
            have ZpW34 := Lib.hid ((hbW34.block _ (Array.getElem?_eq_some_iff.1 ZpW33.out).1).trans ZpW33.out)
            have ZqW34 := Lib.hid ((hbW34.block _ (Array.getElem?_eq_some_iff.1 ZqW33.out).1).trans ZqW33.out)
            have ZbW34 := Lib.hid ((hbW34.block _ (Array.getElem?_eq_some_iff.1 ZbW33.out).1).trans ZbW33.out)
            have ZcW34 := Lib.hid ((hbW34.block _ (Array.getElem?_eq_some_iff.1 ZcW33.out).1).trans ZcW33.out)
            have ZdW34 := Lib.hid ((hbW34.block _ (Array.getElem?_eq_some_iff.1 ZdW33.out).1).trans ZdW33.out)
            have ZeW34 := Lib.hid ((hbW34.block _ (Array.getElem?_eq_some_iff.1 ZeW33.out).1).trans ZeW33.out)
            have zfW34 : W34.heap[W33.heap.size + z24.bs.size]? = some (.cells #[.int .i64 ln2, .int .i64 ld2] 35 (0, 0)) := by rw [← hW34]; exact alloc_keep (alloc_at (by simp [gw_size]))
            have ZfW34 := Lib.hid zfW34; clear zfW34
            have zgW34 : W34.heap[W33.heap.size + z24.bs.size + 1]? = some (.cells #[.int .i64 hn2, .int .i64 hd2] 35 (0, 0)) := by rw [← hW34]; exact alloc_at (by simp [gw_size] <;> omega)
            have ZgW34 := Lib.hid zgW34; clear zgW34
            have HBW34 := Lib.hid (thru hbW34 HBW33.out)
            have SBW34 := Lib.hid hbW34; clear hbW34
            have HWW34 := Lib.hid hW34; clear hW34
            rw [HWW34.out]
            clear et0W33 et1W33 et2W33 et3W33 ea0W33 ea1W33 em0W33 em1W33
            have S34 := Lib.hid (S33.out.trans (SBW34.out.mono S33.out.size))
            have et0W34 : W34.cell? ⟨w.heap.size, 0, none⟩ = some (.slice t.aT t.nT t.cT) := cell_of_block ZtW34.out 0 (by simp)
            have et1W34 : W34.cell? ⟨w.heap.size, 1, none⟩ = some (.slice t.aS t.nS t.cS) := cell_of_block ZtW34.out 1 (by simp)
            have et2W34 : W34.cell? ⟨w.heap.size, 2, none⟩ = some (.slice t.H.a t.H.n t.H.c) := cell_of_block ZtW34.out 2 (by simp)
            have et3W34 : W34.cell? ⟨w.heap.size, 3, none⟩ = some (.slice t.R.a t.R.n t.R.c) := cell_of_block ZtW34.out 3 (by simp)
            have ltW34 := (Array.getElem?_eq_some_iff.1 ZtW34.out).1
            have ea0W34 : W34.cell? ⟨W1.heap.size + z1.bs.size, 0, none⟩ = some (.int .i64 al) := cell_of_block ZaW34.out 0 (by simp)
            have ea1W34 : W34.cell? ⟨W1.heap.size + z1.bs.size, 1, none⟩ = some (.int .i64 ah) := cell_of_block ZaW34.out 1 (by simp)
            have laW34 := (Array.getElem?_eq_some_iff.1 ZaW34.out).1
            have em0W34 : W34.cell? ⟨w.heap.size + 1 + 1, 0, none⟩ = some (.int .i64 tlo) := cell_of_block ZmW34.out 0 (by simp)
            have em1W34 : W34.cell? ⟨w.heap.size + 1 + 1, 1, none⟩ = some (.int .i64 thi) := cell_of_block ZmW34.out 1 (by simp)
            have lmW34 := (Array.getElem?_eq_some_iff.1 ZmW34.out).1
            go_wp2_with fail
            refine (Calls.grown (E3'.out _ (S34.out))).mono ?_
            rintro e w1 ⟨rfl, z25, rfl⟩
            go_upto_region 16 with (fail)
            obtain ⟨W35, hW35⟩ : ∃ W35, (((gw W34 z25)).alloc (.cells #[.int .i64 ln3, .int .i64 ld3] 35)).alloc (.cells #[.int .i64 hn3, .int .i64 hd3] 35) = W35 := ⟨_, rfl⟩
            have hbW35 : Below W34.heap.size W34 W35 := by rw [← hW35]; exact ((below_gw W34 z25).alloc (by simp [gw_size]) _).alloc (by simp [gw_size] <;> omega) _
            have ZtW35 := Lib.hid ((hbW35.block _ (Array.getElem?_eq_some_iff.1 ZtW34.out).1).trans ZtW34.out)
            have ZxW35 := Lib.hid ((hbW35.block _ (Array.getElem?_eq_some_iff.1 ZxW34.out).1).trans ZxW34.out)
            have ZmW35 := Lib.hid ((hbW35.block _ (Array.getElem?_eq_some_iff.1 ZmW34.out).1).trans ZmW34.out)
            have ZaW35 := Lib.hid ((hbW35.block _ (Array.getElem?_eq_some_iff.1 ZaW34.out).1).trans ZaW34.out)
            have ZpW35 := Lib.hid ((hbW35.block _ (Array.getElem?_eq_some_iff.1 ZpW34.out).1).trans ZpW34.out)
            have ZqW35 := Lib.hid ((hbW35.block _ (Array.getElem?_eq_some_iff.1 ZqW34.out).1).trans ZqW34.out)
            have ZbW35 := Lib.hid ((hbW35.block _ (Array.getElem?_eq_some_iff.1 ZbW34.out).1).trans ZbW34.out)
            have ZcW35 := Lib.hid ((hbW35.block _ (Array.getElem?_eq_some_iff.1 ZcW34.out).1).trans ZcW34.out)
            have ZdW35 := Lib.hid ((hbW35.block _ (Array.getElem?_eq_some_iff.1 ZdW34.out).1).trans ZdW34.out)
            have ZeW35 := Lib.hid ((hbW35.block _ (Array.getElem?_eq_some_iff.1 ZeW34.out).1).trans ZeW34.out)
            have ZfW35 := Lib.hid ((hbW35.block _ (Array.getElem?_eq_some_iff.1 ZfW34.out).1).trans ZfW34.out)
            have ZgW35 := Lib.hid ((hbW35.block _ (Array.getElem?_eq_some_iff.1 ZgW34.out).1).trans ZgW34.out)
            have zhW35 : W35.heap[W34.heap.size + z25.bs.size]? = some (.cells #[.int .i64 ln3, .int .i64 ld3] 35 (0, 0)) := by rw [← hW35]; exact alloc_keep (alloc_at (by simp [gw_size]))
            have ZhW35 := Lib.hid zhW35; clear zhW35
            have ziW35 : W35.heap[W34.heap.size + z25.bs.size + 1]? = some (.cells #[.int .i64 hn3, .int .i64 hd3] 35 (0, 0)) := by rw [← hW35]; exact alloc_at (by simp [gw_size] <;> omega)
            have ZiW35 := Lib.hid ziW35; clear ziW35
            have HBW35 := Lib.hid (thru hbW35 HBW34.out)
            have SBW35 := Lib.hid hbW35; clear hbW35
            have HWW35 := Lib.hid hW35; clear hW35
            rw [HWW35.out]
            clear et0W34 et1W34 et2W34 et3W34 ea0W34 ea1W34 em0W34 em1W34
            have S35 := Lib.hid (S34.out.trans (SBW35.out.mono S34.out.size))
            have ea0W35 : W35.cell? ⟨W1.heap.size + z1.bs.size, 0, none⟩ = some (.int .i64 al) := cell_of_block ZaW35.out 0 (by simp)
            have ea1W35 : W35.cell? ⟨W1.heap.size + z1.bs.size, 1, none⟩ = some (.int .i64 ah) := cell_of_block ZaW35.out 1 (by simp)
            have laW35 := (Array.getElem?_eq_some_iff.1 ZaW35.out).1
            have eq0W35 : W35.cell? ⟨Bq, 0, none⟩ = some (.int .i64 (clm hi)) := cell_of_block ZqW35.out 0 (by simp)
            have eq1W35 : W35.cell? ⟨Bq, 1, none⟩ = some (.int .i64 1) := cell_of_block ZqW35.out 1 (by simp)
            have lqW35 := (Array.getElem?_eq_some_iff.1 ZqW35.out).1
            have ef0W35 : W35.cell? ⟨W33.heap.size + z24.bs.size, 0, none⟩ = some (.int .i64 ln2) := cell_of_block ZfW35.out 0 (by simp)
            have ef1W35 : W35.cell? ⟨W33.heap.size + z24.bs.size, 1, none⟩ = some (.int .i64 ld2) := cell_of_block ZfW35.out 1 (by simp)
            have lfW35 := (Array.getElem?_eq_some_iff.1 ZfW35.out).1
            have eh0W35 : W35.cell? ⟨W34.heap.size + z25.bs.size, 0, none⟩ = some (.int .i64 ln3) := cell_of_block ZhW35.out 0 (by simp)
            have eh1W35 : W35.cell? ⟨W34.heap.size + z25.bs.size, 1, none⟩ = some (.int .i64 ld3) := cell_of_block ZhW35.out 1 (by simp)
            have lhW35 := (Array.getElem?_eq_some_iff.1 ZhW35.out).1
            by_cases A2 : ah < s1
            · have d2 : decide (ah < s1) = true := by simp [A2]
              have v4 := HT3.out A2
              simp only [v4] at L4
              clear A2
              cases v5 : ltF ⟨clm hi, 1⟩ ⟨ln2, ld2⟩ with
              | false =>
                simp only [v5] at L5
                clear v5
                go_wp2_with fail
                refine (Calls.grown (L4.out _)).mono ?_
                rintro e w1 ⟨rfl, z26, rfl⟩
                go_wp2_with fail
                refine (Calls.gw_of (L5.out _)).mono ?_
                rintro e w1 ⟨rfl, z27, rfl⟩
                go_wp2_with fail
                refine (Calls.gw_of (alive_any _)).mono ?_
                rintro e w1 ⟨rfl, z28, rfl⟩
                go_wp2_with fail
                go_ret
                exact ⟨rfl, HBW35.out.gw z28⟩
              | true =>
                have v6 := HT4.out v5
                simp only [v6] at L6
                simp only [v5] at L5
                clear v5
                go_wp2_with fail
                refine (Calls.grown (L4.out _)).mono ?_
                rintro e w1 ⟨rfl, z26, rfl⟩
                go_wp2_with fail
                refine (Calls.gw_of (L5.out _)).mono ?_
                rintro e w1 ⟨rfl, z27, rfl⟩
                go_wp2_with fail
                refine (Calls.gw_of (L6.out _)).mono ?_
                rintro e w1 ⟨rfl, z28, rfl⟩
                go_wp2_with fail
                refine (Calls.gw_of (alive_any _)).mono ?_
                rintro e w1 ⟨rfl, z29, rfl⟩
                go_wp2_with fail
                go_ret
                exact ⟨rfl, HBW35.out.gw z29⟩
            · have d2 : decide (ah < s1) = false := by simp; omega
              clear A2
              cases v5 : ltF ⟨clm hi, 1⟩ ⟨ln2, ld2⟩ with
              | false =>
                simp only [v5] at L5
                clear v5
                go_wp2_with fail
                refine (Calls.grown (L5.out _)).mono ?_
                rintro e w1 ⟨rfl, z26, rfl⟩
                go_wp2_with fail
                refine (Calls.gw_of (alive_any _)).mono ?_
                rintro e w1 ⟨rfl, z27, rfl⟩
                go_wp2_with fail
                go_ret
                exact ⟨rfl, HBW35.out.gw z27⟩
              | true =>
                have v6 := HT4.out v5
                simp only [v6] at L6
                simp only [v5] at L5
                clear v5
                go_wp2_with fail
                refine (Calls.grown (L5.out _)).mono ?_
                rintro e w1 ⟨rfl, z26, rfl⟩
                go_wp2_with fail
                refine (Calls.gw_of (L6.out _)).mono ?_
                rintro e w1 ⟨rfl, z27, rfl⟩
                go_wp2_with fail
                refine (Calls.gw_of (alive_any _)).mono ?_
                rintro e w1 ⟨rfl, z28, rfl⟩
                go_wp2_with fail
                go_ret
                exact ⟨rfl, HBW35.out.gw z28⟩
          | true =>
            have v3 := HT2.out v2
            simp only [v3] at L3
            simp only [v2] at L2
            clear v2
            go_wp2_with fail
            refine (Calls.grown (L2.out _)).mono ?_
            rintro e w1 ⟨rfl, z23, rfl⟩
            go_wp2_with fail
            refine (Calls.gw_of (L3.out _)).mono ?_
            rintro e w1 ⟨rfl, z24, rfl⟩
            go_upto_region 14 with (fail)
            obtain ⟨W33, hW33⟩ : ∃ W33, gw W32 z24 = W33 := ⟨_, rfl⟩
            have hbW33 : Below W32.heap.size W32 W33 := by rw [← hW33]; exact below_gw W32 z24
            have ZtW33 := Lib.hid ((hbW33.block _ (Array.getElem?_eq_some_iff.1 ZtW32.out).1).trans ZtW32.out)
            have ZxW33 := Lib.hid ((hbW33.block _ (Array.getElem?_eq_some_iff.1 ZxW32.out).1).trans ZxW32.out)
            have ZmW33 := Lib.hid ((hbW33.block _ (Array.getElem?_eq_some_iff.1 ZmW32.out).1).trans ZmW32.out)
            have ZaW33 := Lib.hid ((hbW33.block _ (Array.getElem?_eq_some_iff.1 ZaW32.out).1).trans ZaW32.out)
            have ZpW33 := Lib.hid ((hbW33.block _ (Array.getElem?_eq_some_iff.1 ZpW32.out).1).trans ZpW32.out)
            have ZqW33 := Lib.hid ((hbW33.block _ (Array.getElem?_eq_some_iff.1 ZqW32.out).1).trans ZqW32.out)
            have ZbW33 := Lib.hid ((hbW33.block _ (Array.getElem?_eq_some_iff.1 ZbW32.out).1).trans ZbW32.out)
            have ZcW33 := Lib.hid ((hbW33.block _ (Array.getElem?_eq_some_iff.1 ZcW32.out).1).trans ZcW32.out)
            have ZdW33 := Lib.hid ((hbW33.block _ (Array.getElem?_eq_some_iff.1 ZdW32.out).1).trans ZdW32.out)
            have ZeW33 := Lib.hid ((hbW33.block _ (Array.getElem?_eq_some_iff.1 ZeW32.out).1).trans ZeW32.out)
            have HBW33 := Lib.hid (thru hbW33 HBW32.out)
            have SBW33 := Lib.hid hbW33; clear hbW33
            have HWW33 := Lib.hid hW33; clear hW33
            rw [HWW33.out]
            clear ea0W32 ea1W32 ep0W32 ep1W32 ec0W32 ec1W32 ee0W32 ee1W32
            have S33 := Lib.hid (S32.out.trans (SBW33.out.mono S32.out.size))
            have et0W33 : W33.cell? ⟨w.heap.size, 0, none⟩ = some (.slice t.aT t.nT t.cT) := cell_of_block ZtW33.out 0 (by simp)
            have et1W33 : W33.cell? ⟨w.heap.size, 1, none⟩ = some (.slice t.aS t.nS t.cS) := cell_of_block ZtW33.out 1 (by simp)
            have et2W33 : W33.cell? ⟨w.heap.size, 2, none⟩ = some (.slice t.H.a t.H.n t.H.c) := cell_of_block ZtW33.out 2 (by simp)
            have et3W33 : W33.cell? ⟨w.heap.size, 3, none⟩ = some (.slice t.R.a t.R.n t.R.c) := cell_of_block ZtW33.out 3 (by simp)
            have ltW33 := (Array.getElem?_eq_some_iff.1 ZtW33.out).1
            have ea0W33 : W33.cell? ⟨W1.heap.size + z1.bs.size, 0, none⟩ = some (.int .i64 al) := cell_of_block ZaW33.out 0 (by simp)
            have ea1W33 : W33.cell? ⟨W1.heap.size + z1.bs.size, 1, none⟩ = some (.int .i64 ah) := cell_of_block ZaW33.out 1 (by simp)
            have laW33 := (Array.getElem?_eq_some_iff.1 ZaW33.out).1
            have em0W33 : W33.cell? ⟨w.heap.size + 1 + 1, 0, none⟩ = some (.int .i64 tlo) := cell_of_block ZmW33.out 0 (by simp)
            have em1W33 : W33.cell? ⟨w.heap.size + 1 + 1, 1, none⟩ = some (.int .i64 thi) := cell_of_block ZmW33.out 1 (by simp)
            have lmW33 := (Array.getElem?_eq_some_iff.1 ZmW33.out).1
            go_wp2_with fail
            refine (Calls.grown (E2'.out _ (S33.out))).mono ?_
            rintro e w1 ⟨rfl, z25, rfl⟩
            go_upto_region 15 with (fail)
            obtain ⟨W34, hW34⟩ : ∃ W34, (((gw W33 z25)).alloc (.cells #[.int .i64 ln2, .int .i64 ld2] 35)).alloc (.cells #[.int .i64 hn2, .int .i64 hd2] 35) = W34 := ⟨_, rfl⟩
            have hbW34 : Below W33.heap.size W33 W34 := by rw [← hW34]; exact ((below_gw W33 z25).alloc (by simp [gw_size]) _).alloc (by simp [gw_size] <;> omega) _
            have ZtW34 := Lib.hid ((hbW34.block _ (Array.getElem?_eq_some_iff.1 ZtW33.out).1).trans ZtW33.out)
            have ZxW34 := Lib.hid ((hbW34.block _ (Array.getElem?_eq_some_iff.1 ZxW33.out).1).trans ZxW33.out)
            have ZmW34 := Lib.hid ((hbW34.block _ (Array.getElem?_eq_some_iff.1 ZmW33.out).1).trans ZmW33.out)
            have ZaW34 := Lib.hid ((hbW34.block _ (Array.getElem?_eq_some_iff.1 ZaW33.out).1).trans ZaW33.out)
            have ZpW34 := Lib.hid ((hbW34.block _ (Array.getElem?_eq_some_iff.1 ZpW33.out).1).trans ZpW33.out)
            have ZqW34 := Lib.hid ((hbW34.block _ (Array.getElem?_eq_some_iff.1 ZqW33.out).1).trans ZqW33.out)
            have ZbW34 := Lib.hid ((hbW34.block _ (Array.getElem?_eq_some_iff.1 ZbW33.out).1).trans ZbW33.out)
            have ZcW34 := Lib.hid ((hbW34.block _ (Array.getElem?_eq_some_iff.1 ZcW33.out).1).trans ZcW33.out)
            have ZdW34 := Lib.hid ((hbW34.block _ (Array.getElem?_eq_some_iff.1 ZdW33.out).1).trans ZdW33.out)
            have ZeW34 := Lib.hid ((hbW34.block _ (Array.getElem?_eq_some_iff.1 ZeW33.out).1).trans ZeW33.out)
            have zfW34 : W34.heap[W33.heap.size + z25.bs.size]? = some (.cells #[.int .i64 ln2, .int .i64 ld2] 35 (0, 0)) := by rw [← hW34]; exact alloc_keep (alloc_at (by simp [gw_size]))
            have ZfW34 := Lib.hid zfW34; clear zfW34
            have zgW34 : W34.heap[W33.heap.size + z25.bs.size + 1]? = some (.cells #[.int .i64 hn2, .int .i64 hd2] 35 (0, 0)) := by rw [← hW34]; exact alloc_at (by simp [gw_size] <;> omega)
            have ZgW34 := Lib.hid zgW34; clear zgW34
            have HBW34 := Lib.hid (thru hbW34 HBW33.out)
            have SBW34 := Lib.hid hbW34; clear hbW34
            have HWW34 := Lib.hid hW34; clear hW34
            rw [HWW34.out]
            clear et0W33 et1W33 et2W33 et3W33 ea0W33 ea1W33 em0W33 em1W33
            have S34 := Lib.hid (S33.out.trans (SBW34.out.mono S33.out.size))
            have et0W34 : W34.cell? ⟨w.heap.size, 0, none⟩ = some (.slice t.aT t.nT t.cT) := cell_of_block ZtW34.out 0 (by simp)
            have et1W34 : W34.cell? ⟨w.heap.size, 1, none⟩ = some (.slice t.aS t.nS t.cS) := cell_of_block ZtW34.out 1 (by simp)
            have et2W34 : W34.cell? ⟨w.heap.size, 2, none⟩ = some (.slice t.H.a t.H.n t.H.c) := cell_of_block ZtW34.out 2 (by simp)
            have et3W34 : W34.cell? ⟨w.heap.size, 3, none⟩ = some (.slice t.R.a t.R.n t.R.c) := cell_of_block ZtW34.out 3 (by simp)
            have ltW34 := (Array.getElem?_eq_some_iff.1 ZtW34.out).1
            have ea0W34 : W34.cell? ⟨W1.heap.size + z1.bs.size, 0, none⟩ = some (.int .i64 al) := cell_of_block ZaW34.out 0 (by simp)
            have ea1W34 : W34.cell? ⟨W1.heap.size + z1.bs.size, 1, none⟩ = some (.int .i64 ah) := cell_of_block ZaW34.out 1 (by simp)
            have laW34 := (Array.getElem?_eq_some_iff.1 ZaW34.out).1
            have em0W34 : W34.cell? ⟨w.heap.size + 1 + 1, 0, none⟩ = some (.int .i64 tlo) := cell_of_block ZmW34.out 0 (by simp)
            have em1W34 : W34.cell? ⟨w.heap.size + 1 + 1, 1, none⟩ = some (.int .i64 thi) := cell_of_block ZmW34.out 1 (by simp)
            have lmW34 := (Array.getElem?_eq_some_iff.1 ZmW34.out).1
            go_wp2_with fail
            refine (Calls.grown (E3'.out _ (S34.out))).mono ?_
            rintro e w1 ⟨rfl, z26, rfl⟩
            go_upto_region 16 with (fail)
            obtain ⟨W35, hW35⟩ : ∃ W35, (((gw W34 z26)).alloc (.cells #[.int .i64 ln3, .int .i64 ld3] 35)).alloc (.cells #[.int .i64 hn3, .int .i64 hd3] 35) = W35 := ⟨_, rfl⟩
            have hbW35 : Below W34.heap.size W34 W35 := by rw [← hW35]; exact ((below_gw W34 z26).alloc (by simp [gw_size]) _).alloc (by simp [gw_size] <;> omega) _
            have ZtW35 := Lib.hid ((hbW35.block _ (Array.getElem?_eq_some_iff.1 ZtW34.out).1).trans ZtW34.out)
            have ZxW35 := Lib.hid ((hbW35.block _ (Array.getElem?_eq_some_iff.1 ZxW34.out).1).trans ZxW34.out)
            have ZmW35 := Lib.hid ((hbW35.block _ (Array.getElem?_eq_some_iff.1 ZmW34.out).1).trans ZmW34.out)
            have ZaW35 := Lib.hid ((hbW35.block _ (Array.getElem?_eq_some_iff.1 ZaW34.out).1).trans ZaW34.out)
            have ZpW35 := Lib.hid ((hbW35.block _ (Array.getElem?_eq_some_iff.1 ZpW34.out).1).trans ZpW34.out)
            have ZqW35 := Lib.hid ((hbW35.block _ (Array.getElem?_eq_some_iff.1 ZqW34.out).1).trans ZqW34.out)
            have ZbW35 := Lib.hid ((hbW35.block _ (Array.getElem?_eq_some_iff.1 ZbW34.out).1).trans ZbW34.out)
            have ZcW35 := Lib.hid ((hbW35.block _ (Array.getElem?_eq_some_iff.1 ZcW34.out).1).trans ZcW34.out)
            have ZdW35 := Lib.hid ((hbW35.block _ (Array.getElem?_eq_some_iff.1 ZdW34.out).1).trans ZdW34.out)
            have ZeW35 := Lib.hid ((hbW35.block _ (Array.getElem?_eq_some_iff.1 ZeW34.out).1).trans ZeW34.out)
            have ZfW35 := Lib.hid ((hbW35.block _ (Array.getElem?_eq_some_iff.1 ZfW34.out).1).trans ZfW34.out)
            have ZgW35 := Lib.hid ((hbW35.block _ (Array.getElem?_eq_some_iff.1 ZgW34.out).1).trans ZgW34.out)
            have zhW35 : W35.heap[W34.heap.size + z26.bs.size]? = some (.cells #[.int .i64 ln3, .int .i64 ld3] 35 (0, 0)) := by rw [← hW35]; exact alloc_keep (alloc_at (by simp [gw_size]))
            have ZhW35 := Lib.hid zhW35; clear zhW35
            have ziW35 : W35.heap[W34.heap.size + z26.bs.size + 1]? = some (.cells #[.int .i64 hn3, .int .i64 hd3] 35 (0, 0)) := by rw [← hW35]; exact alloc_at (by simp [gw_size] <;> omega)
            have ZiW35 := Lib.hid ziW35; clear ziW35
            have HBW35 := Lib.hid (thru hbW35 HBW34.out)
            have SBW35 := Lib.hid hbW35; clear hbW35
            have HWW35 := Lib.hid hW35; clear hW35
            rw [HWW35.out]
            clear et0W34 et1W34 et2W34 et3W34 ea0W34 ea1W34 em0W34 em1W34
            have S35 := Lib.hid (S34.out.trans (SBW35.out.mono S34.out.size))
            have ea0W35 : W35.cell? ⟨W1.heap.size + z1.bs.size, 0, none⟩ = some (.int .i64 al) := cell_of_block ZaW35.out 0 (by simp)
            have ea1W35 : W35.cell? ⟨W1.heap.size + z1.bs.size, 1, none⟩ = some (.int .i64 ah) := cell_of_block ZaW35.out 1 (by simp)
            have laW35 := (Array.getElem?_eq_some_iff.1 ZaW35.out).1
            have eq0W35 : W35.cell? ⟨Bq, 0, none⟩ = some (.int .i64 (clm hi)) := cell_of_block ZqW35.out 0 (by simp)
            have eq1W35 : W35.cell? ⟨Bq, 1, none⟩ = some (.int .i64 1) := cell_of_block ZqW35.out 1 (by simp)
            have lqW35 := (Array.getElem?_eq_some_iff.1 ZqW35.out).1
            have ef0W35 : W35.cell? ⟨W33.heap.size + z25.bs.size, 0, none⟩ = some (.int .i64 ln2) := cell_of_block ZfW35.out 0 (by simp)
            have ef1W35 : W35.cell? ⟨W33.heap.size + z25.bs.size, 1, none⟩ = some (.int .i64 ld2) := cell_of_block ZfW35.out 1 (by simp)
            have lfW35 := (Array.getElem?_eq_some_iff.1 ZfW35.out).1
            have eh0W35 : W35.cell? ⟨W34.heap.size + z26.bs.size, 0, none⟩ = some (.int .i64 ln3) := cell_of_block ZhW35.out 0 (by simp)
            have eh1W35 : W35.cell? ⟨W34.heap.size + z26.bs.size, 1, none⟩ = some (.int .i64 ld3) := cell_of_block ZhW35.out 1 (by simp)
            have lhW35 := (Array.getElem?_eq_some_iff.1 ZhW35.out).1
            by_cases A2 : ah < s1
            · have d2 : decide (ah < s1) = true := by simp [A2]
              have v4 := HT3.out A2
              simp only [v4] at L4
              clear A2
              cases v5 : ltF ⟨clm hi, 1⟩ ⟨ln2, ld2⟩ with
              | false =>
                simp only [v5] at L5
                clear v5
                go_wp2_with fail
                refine (Calls.grown (L4.out _)).mono ?_
                rintro e w1 ⟨rfl, z27, rfl⟩
                go_wp2_with fail
                refine (Calls.gw_of (L5.out _)).mono ?_
                rintro e w1 ⟨rfl, z28, rfl⟩
                go_wp2_with fail
                refine (Calls.gw_of (alive_any _)).mono ?_
                rintro e w1 ⟨rfl, z29, rfl⟩
                go_wp2_with fail
                go_ret
                exact ⟨rfl, HBW35.out.gw z29⟩
              | true =>
                have v6 := HT4.out v5
                simp only [v6] at L6
                simp only [v5] at L5
                clear v5
                go_wp2_with fail
                refine (Calls.grown (L4.out _)).mono ?_
                rintro e w1 ⟨rfl, z27, rfl⟩
                go_wp2_with fail
                refine (Calls.gw_of (L5.out _)).mono ?_
                rintro e w1 ⟨rfl, z28, rfl⟩
                go_wp2_with fail
                refine (Calls.gw_of (L6.out _)).mono ?_
                rintro e w1 ⟨rfl, z29, rfl⟩
                go_wp2_with fail
                refine (Calls.gw_of (alive_any _)).mono ?_
                rintro e w1 ⟨rfl, z30, rfl⟩
                go_wp2_with fail
                go_ret
                exact ⟨rfl, HBW35.out.gw z30⟩
            · have d2 : decide (ah < s1) = false := by simp; omega
              clear A2
              cases v5 : ltF ⟨clm hi, 1⟩ ⟨ln2, ld2⟩ with
              | false =>
                simp only [v5] at L5
                clear v5
                go_wp2_with fail
                refine (Calls.grown (L5.out _)).mono ?_
                rintro e w1 ⟨rfl, z27, rfl⟩
                go_wp2_with fail
                refine (Calls.gw_of (alive_any _)).mono ?_
                rintro e w1 ⟨rfl, z28, rfl⟩
                go_wp2_with fail
                go_ret
                exact ⟨rfl, HBW35.out.gw z28⟩
              | true =>
                have v6 := HT4.out v5
                simp only [v6] at L6
                simp only [v5] at L5
                clear v5
                go_wp2_with fail
                refine (Calls.grown (L5.out _)).mono ?_
                rintro e w1 ⟨rfl, z27, rfl⟩
                go_wp2_with fail
                refine (Calls.gw_of (L6.out _)).mono ?_
                rintro e w1 ⟨rfl, z28, rfl⟩
                go_wp2_with fail
                refine (Calls.gw_of (alive_any _)).mono ?_
                rintro e w1 ⟨rfl, z29, rfl⟩
                go_wp2_with fail
                go_ret
                exact ⟨rfl, HBW35.out.gw z29⟩
    · obtain ⟨z1, z2⟩ := Tab.str_zero hE
      simp only [z1, z2] at ST'
      have ne : (t.strE lo hi tlo thi != 0) = true := by simpa using hE
      clear z1 z2 hE
      generalize t.strE lo hi tlo thi = se at *
      go_wp2_with fail
      refine (Calls.gw_of (ST'.out _ (below_gw W1 z0))).mono ?_
      rintro e w1 ⟨rfl, z1, rfl⟩
      go_upto_region 4 with (fail)
      obtain ⟨W2, hW2⟩ : ∃ W2, ((gw W1 z1)).alloc (.cells #[.int .i64 0, .int .i64 0] 27) = W2 := ⟨_, rfl⟩
      have hbW2 : Below W1.heap.size W1 W2 := by rw [← hW2]; exact (below_gw W1 z1).alloc (by simp [gw_size]) _
      have ZtW2 := Lib.hid ((hbW2.block _ (Array.getElem?_eq_some_iff.1 Zc0.out).1).trans Zc0.out)
      have ZxW2 := Lib.hid ((hbW2.block _ (Array.getElem?_eq_some_iff.1 Zc1.out).1).trans Zc1.out)
      have ZmW2 := Lib.hid ((hbW2.block _ (Array.getElem?_eq_some_iff.1 Zc2.out).1).trans Zc2.out)
      have zaW2 : W2.heap[W1.heap.size + z1.bs.size]? = some (.cells #[.int .i64 0, .int .i64 0] 27 (0, 0)) := by rw [← hW2]; exact alloc_at (by simp [gw_size])
      have ZaW2 := Lib.hid zaW2; clear zaW2
      have HBW2 := Lib.hid (thru hbW2 HBc.out)
      have SBW2 := Lib.hid hbW2; clear hbW2
      have HWW2 := Lib.hid hW2; clear hW2
      rw [HWW2.out]
      clear c00 c01 c02 c03 c10 c11 c20 c21
      have S2 := Lib.hid SBW2.out
      have ea0W2 : W2.cell? ⟨W1.heap.size + z1.bs.size, 0, none⟩ = some (.int .i64 0) := cell_of_block ZaW2.out 0 (by simp)
      have ea1W2 : W2.cell? ⟨W1.heap.size + z1.bs.size, 1, none⟩ = some (.int .i64 0) := cell_of_block ZaW2.out 1 (by simp)
      have laW2 := (Array.getElem?_eq_some_iff.1 ZaW2.out).1
      go_wp2_with fail
      refine (Calls.grown (alive_any _)).mono ?_
      rintro e w1 ⟨rfl, z2, rfl⟩
      go_wp2_with fail
      go_ret
      exact ⟨rfl, HBW2.out.gw z2⟩
end Go.Proofs.Ytohcopdfdmjhnaa.L1
