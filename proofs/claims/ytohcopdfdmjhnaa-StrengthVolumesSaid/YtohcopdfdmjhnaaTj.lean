/- Contracts of the reference's Sees, Shown. No conditions beyond each theorem's own. -/
import Derived.Test.YtohcopdfdmjhnaaTh
import Derived.Test.YtohcopdfdmjhnaaUd
import Derived.Test.YtohcopdfdmjhnaaSf
set_option linter.unusedVariables false
set_option linter.unusedSimpArgs false
set_option linter.unusedSectionVars false
set_option linter.constructorNameAsVariable false
namespace Go.Proofs.Ytohcopdfdmjhnaa.L1
open Go.RowKit
open Go.Proofs.Ytohcopdfdmjhnaa

attribute [local go_sem] gw_cell gw_frozen gw_size

section
variable {t : Tab} {m : Rows} {slo shi tlo thi : Int}
theorem rlow_eq (g : t.Good) : eqF (t.rlow m slo shi tlo thi) (t.low m slo shi tlo thi) :=
  (lowR_is (M := m.M) g.ok.rT g.ok.rS g.ok.t2 g.ok.s2).eq (lowP_is (M := m.M) g.ok.rT g.ok.rS g.ok.t2 g.ok.s2)
theorem rhigh_eq (g : t.Good) : eqF (t.rhigh m slo shi tlo thi) (t.high m slo shi tlo thi) :=
  (highR_is (M := m.M) g.ok.rT g.ok.rS g.ok.t2 g.ok.s2).eq (highP_is (M := m.M) g.ok.rT g.ok.rS g.ok.t2 g.ok.s2)
theorem rlow_fit {w : World} (g : t.Good) (hM : t.Rowed m w) (ft : t.tb.FitT tlo thi) (fs : t.tb.FitS slo shi) : (t.rlow m slo shi tlo thi).Fit := by
  obtain ⟨x, y, hx, hy, e⟩ := (lowR_is (M := m.M) (tlo := tlo) (thi := thi) (slo := slo) (shi := shi) g.ok.rT g.ok.rS g.ok.t2 g.ok.s2).at_
  have a := mark_in ft.b hx
  have b := mark_in fs.b hy
  have f1 := ft.a; have f2 := ft.c; have f3 := fs.a; have f4 := fs.c
  have e2 : t.rlow m slo shi tlo thi = t.valM m x y := e
  rw [e2]
  exact g.fit hM ⟨by omega, Int.le_refl _, by omega⟩ ⟨by omega, Int.le_refl _, by omega⟩
theorem rhigh_fit {w : World} (g : t.Good) (hM : t.Rowed m w) (ft : t.tb.FitT tlo thi) (fs : t.tb.FitS slo shi) : (t.rhigh m slo shi tlo thi).Fit := by
  obtain ⟨x, y, hx, hy, e⟩ := (highR_is (M := m.M) (tlo := tlo) (thi := thi) (slo := slo) (shi := shi) g.ok.rT g.ok.rS g.ok.t2 g.ok.s2).at_
  have a := mark_in ft.b hx
  have b := mark_in fs.b hy
  have f1 := ft.a; have f2 := ft.c; have f3 := fs.a; have f4 := fs.c
  have e2 : t.rhigh m slo shi tlo thi = t.valM m x y := e
  rw [e2]
  exact g.fit hM ⟨by omega, Int.le_refl _, by omega⟩ ⟨by omega, Int.le_refl _, by omega⟩
end

set_option maxRecDepth 100000 in
set_option maxHeartbeats 4000000 in
theorem rSees_any (t : Tab) (g : t.Good) (s tlo thi : Int) (w : World) (hI : t.In w) (ft : t.tb.FitT tlo thi) (fs : t.tb.FitS s s) :
    Calls Try.prog 20 #[t.val, .int .i64 s, .agg #[.int .i64 tlo, .int .i64 thi]] w fun e w' => e = .returned (.tuple #[(t.rlow t.H s s tlo thi).val, (t.rhigh t.H s s tlo thi).val]) ∧ Below w.heap.size w w' := by
  obtain ⟨W1, hW1⟩ : ∃ W1, (((w.alloc (.cells #[.slice t.aT t.nT t.cT, .slice t.aS t.nS t.cS, .slice t.H.a t.H.n t.H.c, .slice t.R.a t.R.n t.R.c] 25)).alloc (.cells #[.int .i64 tlo, .int .i64 thi] 27)).alloc (.cells #[.int .i64 0, .int .i64 0] 35)).alloc (.cells #[.int .i64 0, .int .i64 0] 35) = W1 := ⟨_, rfl⟩
  have hBc : Below w.heap.size w W1 := by rw [← hW1]; exact (((below_alloc _ _).alloc (by simp) _).alloc (by simp <;> omega) _).alloc (by simp <;> omega) _
  have zc0 : W1.heap[w.heap.size]? = some (.cells #[.slice t.aT t.nT t.cT, .slice t.aS t.nS t.cS, .slice t.H.a t.H.n t.H.c, .slice t.R.a t.R.n t.R.c] 25 (0, 0)) := by rw [← hW1]; exact alloc_keep (alloc_keep (alloc_keep (alloc_at rfl)))
  have zc1 : W1.heap[w.heap.size + 1]? = some (.cells #[.int .i64 tlo, .int .i64 thi] 27 (0, 0)) := by rw [← hW1]; exact alloc_keep (alloc_keep (alloc_at (by simp)))
  have zc2 : W1.heap[w.heap.size + 1 + 1]? = some (.cells #[.int .i64 0, .int .i64 0] 35 (0, 0)) := by rw [← hW1]; exact alloc_keep (alloc_at (by simp <;> omega))
  have zc3 : W1.heap[w.heap.size + 1 + 1 + 1]? = some (.cells #[.int .i64 0, .int .i64 0] 35 (0, 0)) := by rw [← hW1]; exact alloc_at (by simp <;> omega)
  have c00 : W1.cell? ⟨w.heap.size, 0, none⟩ = some (.slice t.aT t.nT t.cT) := cell_of_block zc0 0 (by simp)
  have c01 : W1.cell? ⟨w.heap.size, 1, none⟩ = some (.slice t.aS t.nS t.cS) := cell_of_block zc0 1 (by simp)
  have c02 : W1.cell? ⟨w.heap.size, 2, none⟩ = some (.slice t.H.a t.H.n t.H.c) := cell_of_block zc0 2 (by simp)
  have c03 : W1.cell? ⟨w.heap.size, 3, none⟩ = some (.slice t.R.a t.R.n t.R.c) := cell_of_block zc0 3 (by simp)
  have c10 : W1.cell? ⟨w.heap.size + 1, 0, none⟩ = some (.int .i64 tlo) := cell_of_block zc1 0 (by simp)
  have c11 : W1.cell? ⟨w.heap.size + 1, 1, none⟩ = some (.int .i64 thi) := cell_of_block zc1 1 (by simp)
  have c20 : W1.cell? ⟨w.heap.size + 1 + 1, 0, none⟩ = some (.int .i64 0) := cell_of_block zc2 0 (by simp)
  have c21 : W1.cell? ⟨w.heap.size + 1 + 1, 1, none⟩ = some (.int .i64 0) := cell_of_block zc2 1 (by simp)
  have c30 : W1.cell? ⟨w.heap.size + 1 + 1 + 1, 0, none⟩ = some (.int .i64 0) := cell_of_block zc3 0 (by simp)
  have c31 : W1.cell? ⟨w.heap.size + 1 + 1 + 1, 1, none⟩ = some (.int .i64 0) := cell_of_block zc3 1 (by simp)
  have lc0 := (Array.getElem?_eq_some_iff.1 zc0).1
  have lc1 := (Array.getElem?_eq_some_iff.1 zc1).1
  have lc2 := (Array.getElem?_eq_some_iff.1 zc2).1
  have lc3 := (Array.getElem?_eq_some_iff.1 zc3).1
  have fc20 := frozen_of_block zc2 0
  have fc21 := frozen_of_block zc2 1
  have fc30 := frozen_of_block zc3 0
  have fc31 := frozen_of_block zc3 1
  clear zc0 zc1 zc2 zc3
  have HBc := Lib.hid hBc; clear hBc
  have HWc := Lib.hid hW1; clear hW1
  have EN := rEnds_any t g t.H s s tlo thi W1 (hI.below HBc.out) (g.rowsH (hI.below HBc.out)) ft fs
  clear hI ft fs g
  generalize t.rlow t.H s s tlo thi = lo at *
  generalize t.rhigh t.H s s tlo thi = hg at *
  obtain ⟨ln, ld⟩ := lo
  obtain ⟨hn, hd⟩ := hg
  unfold Fr.val Tab.val Rows.val at *
  dsimp only at *
  have EN2 := Lib.hid EN
  clear EN
  go_enter Try.func20, Try.ntmps20
  go_upto_region 1 with (fail)
  rw [HWc.out]
  go_wp2_with fail
  refine (Calls.grown EN2.out).mono ?_
  rintro e w1 ⟨rfl, z1, rfl⟩
  go_wp2_with fail
  refine bodyPost_ret (v := .tuple #[.agg #[.int .i64 ln, .int .i64 ld], .agg #[.int .i64 hn, .int .i64 hd]]) (by simp [results, Try.results20, go_sem, *]) rfl ⟨rfl, ?_⟩
  exact ((((HBc.out.gw z1).setCell (by simp <;> omega) _).setCell (by simp <;> omega) _).setCell (by simp <;> omega) _).setCell (by simp <;> omega) _

set_option maxRecDepth 100000 in
set_option maxHeartbeats 4000000 in
theorem rShown_any (t : Tab) (slo shi tlo thi : Int) (w : World) (hI : t.In w) (hf : t.Fits) :
    Calls Try.prog 26 #[t.val, .agg #[.int .i64 slo, .int .i64 shi], .agg #[.int .i64 tlo, .int .i64 thi]] w fun e w' =>
      e = .returned (.tuple #[.agg #[.int .i64 (t.shLo slo shi tlo thi), .int .i64 (t.shHi slo shi tlo thi)], .int .i64 (t.shE slo shi tlo thi)]) ∧ Below w.heap.size w w' := by
  obtain ⟨W1, hW1⟩ : ∃ W1, (((w.alloc (.cells #[.slice t.aT t.nT t.cT, .slice t.aS t.nS t.cS, .slice t.H.a t.H.n t.H.c, .slice t.R.a t.R.n t.R.c] 25)).alloc (.cells #[.int .i64 slo, .int .i64 shi] 27)).alloc (.cells #[.int .i64 tlo, .int .i64 thi] 27)).alloc (.cells #[.int .i64 0, .int .i64 0] 27) = W1 := ⟨_, rfl⟩
  have hBc : Below w.heap.size w W1 := by rw [← hW1]; exact (((below_alloc _ _).alloc (by simp) _).alloc (by simp <;> omega) _).alloc (by simp <;> omega) _
  have zc0 : W1.heap[w.heap.size]? = some (.cells #[.slice t.aT t.nT t.cT, .slice t.aS t.nS t.cS, .slice t.H.a t.H.n t.H.c, .slice t.R.a t.R.n t.R.c] 25 (0, 0)) := by rw [← hW1]; exact alloc_keep (alloc_keep (alloc_keep (alloc_at rfl)))
  have zc1 : W1.heap[w.heap.size + 1]? = some (.cells #[.int .i64 slo, .int .i64 shi] 27 (0, 0)) := by rw [← hW1]; exact alloc_keep (alloc_keep (alloc_at (by simp)))
  have zc2 : W1.heap[w.heap.size + 1 + 1]? = some (.cells #[.int .i64 tlo, .int .i64 thi] 27 (0, 0)) := by rw [← hW1]; exact alloc_keep (alloc_at (by simp <;> omega))
  have zc3 : W1.heap[w.heap.size + 1 + 1 + 1]? = some (.cells #[.int .i64 0, .int .i64 0] 27 (0, 0)) := by rw [← hW1]; exact alloc_at (by simp <;> omega)
  have c00 : W1.cell? ⟨w.heap.size, 0, none⟩ = some (.slice t.aT t.nT t.cT) := cell_of_block zc0 0 (by simp)
  have c01 : W1.cell? ⟨w.heap.size, 1, none⟩ = some (.slice t.aS t.nS t.cS) := cell_of_block zc0 1 (by simp)
  have c02 : W1.cell? ⟨w.heap.size, 2, none⟩ = some (.slice t.H.a t.H.n t.H.c) := cell_of_block zc0 2 (by simp)
  have c03 : W1.cell? ⟨w.heap.size, 3, none⟩ = some (.slice t.R.a t.R.n t.R.c) := cell_of_block zc0 3 (by simp)
  have c10 : W1.cell? ⟨w.heap.size + 1, 0, none⟩ = some (.int .i64 slo) := cell_of_block zc1 0 (by simp)
  have c11 : W1.cell? ⟨w.heap.size + 1, 1, none⟩ = some (.int .i64 shi) := cell_of_block zc1 1 (by simp)
  have c20 : W1.cell? ⟨w.heap.size + 1 + 1, 0, none⟩ = some (.int .i64 tlo) := cell_of_block zc2 0 (by simp)
  have c21 : W1.cell? ⟨w.heap.size + 1 + 1, 1, none⟩ = some (.int .i64 thi) := cell_of_block zc2 1 (by simp)
  have c30 : W1.cell? ⟨w.heap.size + 1 + 1 + 1, 0, none⟩ = some (.int .i64 0) := cell_of_block zc3 0 (by simp)
  have c31 : W1.cell? ⟨w.heap.size + 1 + 1 + 1, 1, none⟩ = some (.int .i64 0) := cell_of_block zc3 1 (by simp)
  have lc0 := (Array.getElem?_eq_some_iff.1 zc0).1
  have lc1 := (Array.getElem?_eq_some_iff.1 zc1).1
  have lc2 := (Array.getElem?_eq_some_iff.1 zc2).1
  have lc3 := (Array.getElem?_eq_some_iff.1 zc3).1
  have fc30 := frozen_of_block zc3 0
  have fc31 := frozen_of_block zc3 1
  have Zc0 := Lib.hid zc0
  have Zc1 := Lib.hid zc1
  have Zc2 := Lib.hid zc2
  have Zc3 := Lib.hid zc3
  clear zc0 zc1 zc2 zc3
  have HBc := Lib.hid hBc; clear hBc
  have HWc := Lib.hid hW1; clear hW1
  have I1 := Lib.hid (hI.below HBc.out)
  clear hI
  cases hok : t.okB with
  | false =>
    have e3 : t.shE slo shi tlo thi = 1 := Tab.shE_bad hok
    obtain ⟨e1, e2⟩ := Tab.sh_zero (t := t) (slo := slo) (shi := shi) (tlo := tlo) (thi := thi) (by rw [e3]; decide)
    rw [e1, e2, e3]
    clear e1 e2 e3
    have TB' := Lib.hid (fun W (hb : Below W1.heap.size W1 W) => rTable_b (b := false) t W (I1.out.below hb) hf hok)
    unfold Tab.val at TB' ⊢
    clear hok
    go_enter Try.func26, Try.ntmps26
    go_upto_region 1 with (fail)
    rw [HWc.out]
    go_wp2_with fail
    refine (Calls.grown (TB'.out _ (Below.refl _ W1))).mono ?_
    rintro e w1 ⟨rfl, z1, rfl⟩
    go_wp2_with fail
    refine bodyPost_ret (v := .tuple #[.agg #[.int .i64 0, .int .i64 0], .int .i64 1]) (by simp [results, Try.results26, go_sem, *]) rfl ⟨rfl, ?_⟩
    exact ((HBc.out.gw z1).setCell (by simp <;> omega) _).setCell (by simp <;> omega) _
  | true =>
    have TB' := Lib.hid (fun W (hb : Below W1.heap.size W1 W) => rTable_b (b := true) t W (I1.out.below hb) hf hok)
    have g := Tab.good hok
    have t2 := g.ok.t2
    have t32 := g.ok.t32
    have s2 := g.ok.s2
    have s32 := g.ok.s32
    simp only [Tab.tb] at t2 t32 s2 s32
    cases hS : t.fitS slo shi with
    | false =>
      have e3 : t.shE slo shi tlo thi = 2 := Tab.shE_far hok (fun h => by rw [hS] at h; cases h.1)
      obtain ⟨e1, e2⟩ := Tab.sh_zero (t := t) (slo := slo) (shi := shi) (tlo := tlo) (thi := thi) (by rw [e3]; decide)
      rw [e1, e2, e3]
      clear e1 e2 e3
      have SB' := Lib.hid (fun W (hb : Below W1.heap.size W1 W) => rStrong_b (b := false) t slo shi W (I1.out.below hb) s2 s32 hS)
      unfold Tab.val at TB' SB' ⊢
      clear hS
      go_enter Try.func26, Try.ntmps26
      go_upto_region 1 with (fail)
      rw [HWc.out]
      go_wp2_with fail
      refine (Calls.grown (TB'.out _ (Below.refl _ W1))).mono ?_
      rintro e w1 ⟨rfl, z1, rfl⟩
      go_wp2_with fail
      refine (Calls.gw_of (SB'.out _ (below_gw W1 z1))).mono ?_
      rintro e w1 ⟨rfl, z2, rfl⟩
      go_wp2_with fail
      refine bodyPost_ret (v := .tuple #[.agg #[.int .i64 0, .int .i64 0], .int .i64 2]) (by simp [results, Try.results26, go_sem, *]) rfl ⟨rfl, ?_⟩
      exact ((HBc.out.gw z2).setCell (by simp <;> omega) _).setCell (by simp <;> omega) _
    | true =>
      have SB' := Lib.hid (fun W (hb : Below W1.heap.size W1 W) => rStrong_b (b := true) t slo shi W (I1.out.below hb) s2 s32 hS)
      cases hT : t.fitT tlo thi with
      | false =>
        have e3 : t.shE slo shi tlo thi = 2 := Tab.shE_far hok (fun h => by rw [hT] at h; cases h.2)
        obtain ⟨e1, e2⟩ := Tab.sh_zero (t := t) (slo := slo) (shi := shi) (tlo := tlo) (thi := thi) (by rw [e3]; decide)
        rw [e1, e2, e3]
        clear e1 e2 e3
        have TE' := Lib.hid (fun W (hb : Below W1.heap.size W1 W) => rTemp_b (b := false) t tlo thi W (I1.out.below hb) t2 t32 hT)
        unfold Tab.val at TB' SB' TE' ⊢
        clear hT
        go_enter Try.func26, Try.ntmps26
        go_upto_region 1 with (fail)
        rw [HWc.out]
        go_wp2_with fail
        refine (Calls.grown (TB'.out _ (Below.refl _ W1))).mono ?_
        rintro e w1 ⟨rfl, z1, rfl⟩
        go_wp2_with fail
        refine (Calls.gw_of (SB'.out _ (below_gw W1 z1))).mono ?_
        rintro e w1 ⟨rfl, z2, rfl⟩
        go_wp2_with fail
        refine (Calls.gw_of (TE'.out _ (below_gw W1 z2))).mono ?_
        rintro e w1 ⟨rfl, z3, rfl⟩
        go_wp2_with fail
        refine bodyPost_ret (v := .tuple #[.agg #[.int .i64 0, .int .i64 0], .int .i64 2]) (by simp [results, Try.results26, go_sem, *]) rfl ⟨rfl, ?_⟩
        exact ((HBc.out.gw z3).setCell (by simp <;> omega) _).setCell (by simp <;> omega) _
      | true =>
        have TE' := Lib.hid (fun W (hb : Below W1.heap.size W1 W) => rTemp_b (b := true) t tlo thi W (I1.out.below hb) t2 t32 hT)
        have ft := Tab.fitT_t hT
        have fs := Tab.fitS_t hS
        have e3 := Tab.shE_ok hok hS hT
        have lf := rlow_fit (m := t.H) g (g.rowsH I1.out) ft fs
        have hf2 := rhigh_fit (m := t.H) g (g.rowsH I1.out) ft fs
        have e1 : t.shLo slo shi tlo thi = (t.rlow t.H slo shi tlo thi).flr := by unfold Tab.shLo; rw [if_pos e3]; exact (eqF_flr lf.d1 (low_d g t.H slo shi tlo thi) (rlow_eq g)).symm
        have e2 : t.shHi slo shi tlo thi = (t.rhigh t.H slo shi tlo thi).cei := by unfold Tab.shHi; rw [if_pos e3]; exact (eqF_cei hf2.d1 (high_d g t.H slo shi tlo thi) (rhigh_eq g)).symm
        rw [e1, e2, e3]
        have EN' := Lib.hid (fun W (hb : Below W1.heap.size W1 W) => rEnds_any t g t.H slo shi tlo thi W (I1.out.below hb) (g.rowsH (I1.out.below hb)) ft fs)
        have FL : Hid (∀ W, Calls Try.prog 31 #[.agg #[.int .i64 (t.rlow t.H slo shi tlo thi).n, .int .i64 (t.rlow t.H slo shi tlo thi).d]] W fun e w' => e = .returned (.int .i64 (t.rlow t.H slo shi tlo thi).flr) ∧ Below W.heap.size W w') := Lib.hid (fun W => rfloor_any _ _ W lf.n1 lf.n2 lf.d1)
        have CE : Hid (∀ W, Calls Try.prog 32 #[.agg #[.int .i64 (t.rhigh t.H slo shi tlo thi).n, .int .i64 (t.rhigh t.H slo shi tlo thi).d]] W fun e w' => e = .returned (.int .i64 (t.rhigh t.H slo shi tlo thi).cei) ∧ Below W.heap.size W w') := Lib.hid (fun W => rceil_any _ _ W hf2.n1 hf2.n2 hf2.d1)
        clear e1 e2 e3 ft fs lf hf2 g hok hS hT hf
        unfold Fr.val at EN'
        generalize (t.rlow t.H slo shi tlo thi).flr = p at *
        generalize (t.rhigh t.H slo shi tlo thi).cei = q at *
        generalize (t.rlow t.H slo shi tlo thi).n = ln at *
        generalize (t.rlow t.H slo shi tlo thi).d = ld at *
        generalize (t.rhigh t.H slo shi tlo thi).n = hn at *
        generalize (t.rhigh t.H slo shi tlo thi).d = hd at *
        unfold Tab.val at TB' SB' TE' EN' ⊢
        unfold Rows.val at EN'
        go_enter Try.func26, Try.ntmps26
        go_upto_region 1 with (fail)
        rw [HWc.out]
        go_wp2_with fail
        refine (Calls.grown (TB'.out _ (Below.refl _ W1))).mono ?_
        rintro e w1 ⟨rfl, z1, rfl⟩
        go_wp2_with fail
        refine (Calls.gw_of (SB'.out _ (below_gw W1 z1))).mono ?_
        rintro e w1 ⟨rfl, z2, rfl⟩
        go_wp2_with fail
        refine (Calls.gw_of (TE'.out _ (below_gw W1 z2))).mono ?_
        rintro e w1 ⟨rfl, z3, rfl⟩
        go_wp2_with fail
        refine (Calls.gw_of (EN'.out _ (below_gw W1 z3))).mono ?_
        rintro e w1 ⟨rfl, z4, rfl⟩
        go_upto_region 6 with (fail)
        obtain ⟨W2, hW2⟩ : ∃ W2, (((gw W1 z4)).alloc (.cells #[.int .i64 ln, .int .i64 ld] 35)).alloc (.cells #[.int .i64 hn, .int .i64 hd] 35) = W2 := ⟨_, rfl⟩
        have hbW2 : Below W1.heap.size W1 W2 := by rw [← hW2]; exact ((below_gw W1 z4).alloc (by simp [gw_size]) _).alloc (by simp [gw_size] <;> omega) _
        have ZtW2 := Lib.hid ((hbW2.block _ (Array.getElem?_eq_some_iff.1 Zc0.out).1).trans Zc0.out)
        have ZsW2 := Lib.hid ((hbW2.block _ (Array.getElem?_eq_some_iff.1 Zc1.out).1).trans Zc1.out)
        have ZmW2 := Lib.hid ((hbW2.block _ (Array.getElem?_eq_some_iff.1 Zc2.out).1).trans Zc2.out)
        have ZrW2 := Lib.hid ((hbW2.block _ (Array.getElem?_eq_some_iff.1 Zc3.out).1).trans Zc3.out)
        have zlW2 : W2.heap[W1.heap.size + z4.bs.size]? = some (.cells #[.int .i64 ln, .int .i64 ld] 35 (0, 0)) := by rw [← hW2]; exact alloc_keep (alloc_at (by simp [gw_size]))
        have ZlW2 := Lib.hid zlW2; clear zlW2
        have zhW2 : W2.heap[W1.heap.size + z4.bs.size + 1]? = some (.cells #[.int .i64 hn, .int .i64 hd] 35 (0, 0)) := by rw [← hW2]; exact alloc_at (by simp [gw_size] <;> omega)
        have ZhW2 := Lib.hid zhW2; clear zhW2
        have HBW2 := Lib.hid (thru hbW2 HBc.out)
        have SBW2 := Lib.hid hbW2; clear hbW2
        have HWW2 := Lib.hid hW2; clear hW2
        rw [HWW2.out]
        clear c00 c01 c02 c03 c10 c11 c20 c21 c30 c31 fc30 fc31
        have S2 := Lib.hid SBW2.out
        have er0W2 : W2.cell? ⟨w.heap.size + 1 + 1 + 1, 0, none⟩ = some (.int .i64 0) := cell_of_block ZrW2.out 0 (by simp)
        have fr0W2 := frozen_of_block ZrW2.out 0
        have er1W2 : W2.cell? ⟨w.heap.size + 1 + 1 + 1, 1, none⟩ = some (.int .i64 0) := cell_of_block ZrW2.out 1 (by simp)
        have fr1W2 := frozen_of_block ZrW2.out 1
        have lrW2 := (Array.getElem?_eq_some_iff.1 ZrW2.out).1
        have el0W2 : W2.cell? ⟨W1.heap.size + z4.bs.size, 0, none⟩ = some (.int .i64 ln) := cell_of_block ZlW2.out 0 (by simp)
        have el1W2 : W2.cell? ⟨W1.heap.size + z4.bs.size, 1, none⟩ = some (.int .i64 ld) := cell_of_block ZlW2.out 1 (by simp)
        have llW2 := (Array.getElem?_eq_some_iff.1 ZlW2.out).1
        have eh0W2 : W2.cell? ⟨W1.heap.size + z4.bs.size + 1, 0, none⟩ = some (.int .i64 hn) := cell_of_block ZhW2.out 0 (by simp)
        have eh1W2 : W2.cell? ⟨W1.heap.size + z4.bs.size + 1, 1, none⟩ = some (.int .i64 hd) := cell_of_block ZhW2.out 1 (by simp)
        have lhW2 := (Array.getElem?_eq_some_iff.1 ZhW2.out).1
        refine wp_region_gw_tail 5 (by kernel_rfl) (by kernel_rfl) ?_
        simp only [List.take_succ_cons, List.take_zero]
        repeat (go_big_quiet_step (first | (go_at_call 31; with_reducible exact Calls.gw_of (FL.out _)) | (go_at_call 32; with_reducible exact Calls.gw_of (CE.out _))))
        refine wpQuiet_nil ?_
        rintro _ ⟨z9, rfl⟩
        simp only [List.drop_succ_cons, List.drop_zero]
        go_wp2_with fail
        refine bodyPost_ret (v := .tuple #[.agg #[.int .i64 p, .int .i64 q], .int .i64 0]) (by simp [results, Try.results26, go_sem, *]) rfl ⟨rfl, ?_⟩
        exact ((HBW2.out.gw z9).setCell (by simp <;> omega) _).setCell (by simp <;> omega) _
end Go.Proofs.Ytohcopdfdmjhnaa.L1
