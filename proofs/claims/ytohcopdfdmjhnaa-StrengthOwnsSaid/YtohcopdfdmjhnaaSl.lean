/- Contract of Shown. No conditions beyond each theorem's own. -/
import Derived.Test.YtohcopdfdmjhnaaSk
set_option linter.unusedVariables false
set_option linter.unusedSimpArgs false
set_option linter.unusedSectionVars false
set_option linter.constructorNameAsVariable false
namespace Go.Proofs.Ytohcopdfdmjhnaa.L1
open Go.RowKit
open Go.Proofs.Ytohcopdfdmjhnaa

attribute [local go_sem] gw_cell gw_frozen gw_size

def Tab.shE (t : Tab) (slo shi tlo thi : Int) : Int := if t.okB = true then (if t.fitS slo shi = true ∧ t.fitT tlo thi = true then 0 else 2) else 1
def Tab.shLo (t : Tab) (slo shi tlo thi : Int) : Int := if t.shE slo shi tlo thi = 0 then (t.low t.H slo shi tlo thi).flr else 0
def Tab.shHi (t : Tab) (slo shi tlo thi : Int) : Int := if t.shE slo shi tlo thi = 0 then (t.high t.H slo shi tlo thi).cei else 0
section
variable {t : Tab} {slo shi tlo thi : Int}
theorem Tab.shE_bad (h : t.okB = false) : t.shE slo shi tlo thi = 1 := by unfold Tab.shE; rw [h]; rfl
theorem Tab.shE_far (h : t.okB = true) (h2 : ¬ (t.fitS slo shi = true ∧ t.fitT tlo thi = true)) : t.shE slo shi tlo thi = 2 := by unfold Tab.shE; rw [if_pos h, if_neg h2]
theorem Tab.shE_ok (h : t.okB = true) (h2 : t.fitS slo shi = true) (h3 : t.fitT tlo thi = true) : t.shE slo shi tlo thi = 0 := by unfold Tab.shE; rw [if_pos h, if_pos ⟨h2, h3⟩]
theorem Tab.sh_zero (h : ¬ t.shE slo shi tlo thi = 0) : t.shLo slo shi tlo thi = 0 ∧ t.shHi slo shi tlo thi = 0 := ⟨if_neg h, if_neg h⟩
end
theorem low_fit {t : Tab} {m : Rows} {w : World} (g : t.Good) (hM : t.Rowed m w) {slo shi tlo thi : Int} (ft : t.tb.FitT tlo thi) (fs : t.tb.FitS slo shi) : (t.low m slo shi tlo thi).Fit := by
  obtain ⟨x, y, hx, hy, e⟩ := (lowP_is (M := m.M) (tlo := tlo) (thi := thi) (slo := slo) (shi := shi) g.ok.rT g.ok.rS g.ok.t2 g.ok.s2).at_
  have hx' := mark_in ft.b hx
  have hy' := mark_in fs.b hy
  have a := ft.a
  have c := ft.c
  have p := fs.a
  have q := fs.c
  have : (t.valM m x y).Fit := g.fit hM (x := x) (y := y) ⟨by omega, Int.le_refl _, by omega⟩ ⟨by omega, Int.le_refl _, by omega⟩
  have e' : t.low m slo shi tlo thi = t.valM m x y := e
  rw [e']; exact this
theorem high_fit {t : Tab} {m : Rows} {w : World} (g : t.Good) (hM : t.Rowed m w) {slo shi tlo thi : Int} (ft : t.tb.FitT tlo thi) (fs : t.tb.FitS slo shi) : (t.high m slo shi tlo thi).Fit := by
  obtain ⟨x, y, hx, hy, e⟩ := (highP_is (M := m.M) (tlo := tlo) (thi := thi) (slo := slo) (shi := shi) g.ok.rT g.ok.rS g.ok.t2 g.ok.s2).at_
  have hx' := mark_in ft.b hx
  have hy' := mark_in fs.b hy
  have a := ft.a
  have c := ft.c
  have p := fs.a
  have q := fs.c
  have : (t.valM m x y).Fit := g.fit hM (x := x) (y := y) ⟨by omega, Int.le_refl _, by omega⟩ ⟨by omega, Int.le_refl _, by omega⟩
  have e' : t.high m slo shi tlo thi = t.valM m x y := e
  rw [e']; exact this
theorem Fr.Fit.floor {x : Fr} (h : x.Fit) (w : World) : Calls Try.prog 53 #[x.val] w fun e w' => e = .returned (.int .i64 x.flr) ∧ Below w.heap.size w w' := floor_any x.n x.d w h.n1 h.n2 h.d1
theorem Fr.Fit.ceil {x : Fr} (h : x.Fit) (w : World) : Calls Try.prog 55 #[x.val] w fun e w' => e = .returned (.int .i64 x.cei) ∧ Below w.heap.size w w' := ceil_any x.n x.d w h.n1 h.n2 h.d1

set_option maxRecDepth 100000 in
set_option maxHeartbeats 4000000 in
theorem Shown_any (t : Tab) (slo shi tlo thi : Int) (w : World) (hI : t.In w) (hf : t.Fits) :
    Calls Try.prog 25 #[t.val, .agg #[.int .i64 slo, .int .i64 shi], .agg #[.int .i64 tlo, .int .i64 thi]] w fun e w' =>
      e = .returned (.tuple #[.agg #[.int .i64 (t.shLo slo shi tlo thi), .int .i64 (t.shHi slo shi tlo thi)], .int .i64 (t.shE slo shi tlo thi)]) ∧ Below w.heap.size w w' := by
  obtain ⟨W1, hW1⟩ : ∃ W1, (((w.alloc (.cells #[.slice t.aT t.nT t.cT, .slice t.aS t.nS t.cS, .slice t.H.a t.H.n t.H.c, .slice t.R.a t.R.n t.R.c] 25)).alloc (.cells #[.int .i64 slo, .int .i64 shi] 27)).alloc (.cells #[.int .i64 tlo, .int .i64 thi] 27)).alloc (.cells #[.int .i64 0, .int .i64 0] 27) = W1 := ⟨_, rfl⟩
  have hBc : Below w.heap.size w W1 := by rw [← hW1]; exact (((below_alloc _ _).alloc (by simp) _).alloc (by simp <;> omega) _).alloc (by simp <;> omega) _
  have zc0 : W1.heap[w.heap.size]? = some (.cells #[.slice t.aT t.nT t.cT, .slice t.aS t.nS t.cS, .slice t.H.a t.H.n t.H.c, .slice t.R.a t.R.n t.R.c] 25 (0, 0)) := by rw [← hW1]; exact alloc_keep (alloc_keep (alloc_keep (alloc_at rfl)))
  have zc1 : W1.heap[w.heap.size + 1]? = some (.cells #[.int .i64 slo, .int .i64 shi] 27 (0, 0)) := by rw [← hW1]; exact alloc_keep (alloc_keep (alloc_at (by simp)))
  have zc2 : W1.heap[w.heap.size + 1 + 1]? = some (.cells #[.int .i64 tlo, .int .i64 thi] 27 (0, 0)) := by rw [← hW1]; exact alloc_keep (alloc_at (by simp <;> omega))
  have zc3 : W1.heap[w.heap.size + 1 + 1 + 1]? = some (.cells #[.int .i64 0, .int .i64 0] 27 (0, 0)) := by rw [← hW1]; exact alloc_at (by simp <;> omega)
  have c00 : W1.cell? ⟨w.heap.size, 0, none⟩ = some (.slice t.aT t.nT t.cT) := cell_of_block zc0 0 (by simp)
  have c01 : W1.cell? ⟨w.heap.size, 1, none⟩ = some (.slice t.aS t.nS t.cS) := cell_of_block zc0 1 (by simp)
  have c02 : W1.cell? ⟨w.heap.size, 2, none⟩ = some (.slice t.H.a t.H.n t.H.c) := cell_of_block zc0 2 (by simp)
  have c03 : W1.cell? ⟨w.heap.size, 3, none⟩ = some (.slice t.R.a t.R.n t.R.c) := cell_of_block zc0 3 (by simp)
  have c10 : W1.cell? ⟨w.heap.size + 1, 0, none⟩ = some (.int .i64 slo) := cell_of_block zc1 0 (by simp)
  have c11 : W1.cell? ⟨w.heap.size + 1, 1, none⟩ = some (.int .i64 shi) := cell_of_block zc1 1 (by simp)
  have c20 : W1.cell? ⟨w.heap.size + 1 + 1, 0, none⟩ = some (.int .i64 tlo) := cell_of_block zc2 0 (by simp)
  have c21 : W1.cell? ⟨w.heap.size + 1 + 1, 1, none⟩ = some (.int .i64 thi) := cell_of_block zc2 1 (by simp)
  have c30 : W1.cell? ⟨w.heap.size + 1 + 1 + 1, 0, none⟩ = some (.int .i64 0) := cell_of_block zc3 0 (by simp)
  have c31 : W1.cell? ⟨w.heap.size + 1 + 1 + 1, 1, none⟩ = some (.int .i64 0) := cell_of_block zc3 1 (by simp)
  have lc0 := (Array.getElem?_eq_some_iff.1 zc0).1
  have lc1 := (Array.getElem?_eq_some_iff.1 zc1).1
  have lc2 := (Array.getElem?_eq_some_iff.1 zc2).1
  have lc3 := (Array.getElem?_eq_some_iff.1 zc3).1
  have fc30 := frozen_of_block zc3 0
  have fc31 := frozen_of_block zc3 1
  have Zc0 := Lib.hid zc0
  have Zc1 := Lib.hid zc1
  have Zc2 := Lib.hid zc2
  have Zc3 := Lib.hid zc3
  clear zc0 zc1 zc2 zc3
  have HBc := Lib.hid hBc; clear hBc
  have HWc := Lib.hid hW1; clear hW1
  have I1 := hI.below HBc.out
  have CK := Check_any t W1 I1 hf
  clear hI
  cases h1 : t.okB with
  | false =>
    have e0 := Tab.shE_bad (slo := slo) (shi := shi) (tlo := tlo) (thi := thi) h1
    obtain ⟨e1, e2⟩ := Tab.sh_zero (t := t) (slo := slo) (shi := shi) (tlo := tlo) (thi := thi) (by rw [e0]; decide)
    rw [e0, e1, e2]
    rw [h1] at CK
    have HCK := Lib.hid CK
    clear h1 e0 e1 e2 CK I1
    unfold Tab.val at HCK ⊢
    go_enter Try.func25, Try.ntmps25
    go_upto_region 1 with (fail)
    rw [HWc.out]
    go_wp2_with fail
    refine (Calls.grown HCK.out).mono ?_
    rintro e w1 ⟨rfl, z1, rfl⟩
    go_wp2_with fail
    refine bodyPost_ret (v := .tuple #[.agg #[.int .i64 0, .int .i64 0], .int .i64 1]) (by simp [results, Try.results25, go_sem, *]) rfl ⟨rfl, ?_⟩
    exact ((HBc.out.gw z1).setCell (by simp <;> omega) _).setCell (by simp <;> omega) _
  | true =>
    have g := Tab.good h1
    have t2 : 2 ≤ t.nT := g.ok.t2
    have t32 : t.nT ≤ 32 := g.ok.t32
    have s2 : 2 ≤ t.nS := g.ok.s2
    have s32 : t.nS ≤ 32 := g.ok.s32
    rw [h1] at CK
    have HCK := Lib.hid CK
    cases h2 : t.fitS slo shi with
    | false =>
      have e0 := Tab.shE_far (t := t) (slo := slo) (shi := shi) (tlo := tlo) (thi := thi) h1 (fun h => by rw [h2] at h; cases h.1)
      obtain ⟨e1, e2⟩ := Tab.sh_zero (t := t) (slo := slo) (shi := shi) (tlo := tlo) (thi := thi) (by rw [e0]; decide)
      rw [e0, e1, e2]
      have ST := Lib.hid (fun z => strong_b (b := false) t w.heap.size slo shi (gw W1 z) (I1.below (below_gw W1 z)) s2 s32 (below_cell (below_gw W1 z) c01) h2)
      clear h1 h2 e0 e1 e2 CK I1 g t2 t32 s2 s32
      unfold Tab.val at HCK ⊢
      go_enter Try.func25, Try.ntmps25
      go_upto_region 1 with (fail)
      rw [HWc.out]
      go_wp2_with fail
      refine (Calls.grown HCK.out).mono ?_
      rintro e w1 ⟨rfl, z1, rfl⟩
      go_wp2_with fail
      refine (Calls.gw_of (ST.out z1)).mono ?_
      rintro e w1 ⟨rfl, z2, rfl⟩
      go_wp2_with fail
      refine bodyPost_ret (v := .tuple #[.agg #[.int .i64 0, .int .i64 0], .int .i64 2]) (by simp [results, Try.results25, go_sem, *]) rfl ⟨rfl, ?_⟩
      exact ((HBc.out.gw z2).setCell (by simp <;> omega) _).setCell (by simp <;> omega) _
    | true =>
      have ST := Lib.hid (fun z => strong_b (b := true) t w.heap.size slo shi (gw W1 z) (I1.below (below_gw W1 z)) s2 s32 (below_cell (below_gw W1 z) c01) h2)
      cases h3 : t.fitT tlo thi with
      | false =>
        have e0 := Tab.shE_far (t := t) (slo := slo) (shi := shi) (tlo := tlo) (thi := thi) h1 (fun h => by rw [h3] at h; cases h.2)
        obtain ⟨e1, e2⟩ := Tab.sh_zero (t := t) (slo := slo) (shi := shi) (tlo := tlo) (thi := thi) (by rw [e0]; decide)
        rw [e0, e1, e2]
        have WA := Lib.hid (fun z => warm_b (b := false) t w.heap.size tlo thi (gw W1 z) (I1.below (below_gw W1 z)) t2 t32 (below_cell (below_gw W1 z) c00) h3)
        clear h1 h2 h3 e0 e1 e2 CK I1 g t2 t32 s2 s32
        unfold Tab.val at HCK ⊢
        go_enter Try.func25, Try.ntmps25
        go_upto_region 1 with (fail)
        rw [HWc.out]
        go_wp2_with fail
        refine (Calls.grown HCK.out).mono ?_
        rintro e w1 ⟨rfl, z1, rfl⟩
        go_wp2_with fail
        refine (Calls.gw_of (ST.out z1)).mono ?_
        rintro e w1 ⟨rfl, z2, rfl⟩
        go_wp2_with fail
        refine (Calls.gw_of (WA.out z2)).mono ?_
        rintro e w1 ⟨rfl, z3, rfl⟩
        go_wp2_with fail
        refine bodyPost_ret (v := .tuple #[.agg #[.int .i64 0, .int .i64 0], .int .i64 2]) (by simp [results, Try.results25, go_sem, *]) rfl ⟨rfl, ?_⟩
        exact ((HBc.out.gw z3).setCell (by simp <;> omega) _).setCell (by simp <;> omega) _
      | true =>
        have e0 := Tab.shE_ok (t := t) (slo := slo) (shi := shi) (tlo := tlo) (thi := thi) h1 h2 h3
        have e1 : t.shLo slo shi tlo thi = (t.low t.H slo shi tlo thi).flr := if_pos e0
        have e2 : t.shHi slo shi tlo thi = (t.high t.H slo shi tlo thi).cei := if_pos e0
        rw [e0, e1, e2]
        have WA := Lib.hid (fun z => warm_b (b := true) t w.heap.size tlo thi (gw W1 z) (I1.below (below_gw W1 z)) t2 t32 (below_cell (below_gw W1 z) c00) h3)
        have rH := g.rowsH I1
        have EN := Lib.hid (fun z => ends_any t g t.H w.heap.size slo shi tlo thi (gw W1 z) (I1.below (below_gw W1 z)) (rH.below (below_gw W1 z)) (Tab.fitT_t h3) (Tab.fitS_t h2) (below_cell (below_gw W1 z) c00) (below_cell (below_gw W1 z) c01))
        have FL := low_fit g rH (Tab.fitT_t h3) (Tab.fitS_t h2)
        have FH := high_fit g rH (Tab.fitT_t h3) (Tab.fitS_t h2)
        clear h1 h2 h3 e0 e1 e2 CK I1 rH g t2 t32 s2 s32
        generalize t.low t.H slo shi tlo thi = lo at *
        generalize t.high t.H slo shi tlo thi = hi at *
        have FLO := Lib.hid (fun w => FL.floor w)
        have FHI := Lib.hid (fun w => FH.ceil w)
        clear FL FH
        obtain ⟨l, hl⟩ : ∃ l, lo.flr = l := ⟨_, rfl⟩
        obtain ⟨h, hh⟩ : ∃ h, hi.cei = h := ⟨_, rfl⟩
        rw [hl] at FLO ⊢
        rw [hh] at FHI ⊢
        clear hl hh
        unfold Fr.val at EN FLO FHI
        unfold Rows.val at EN
        unfold Tab.val at HCK ⊢
        go_enter Try.func25, Try.ntmps25
        go_upto_region 1 with (fail)
        rw [HWc.out]
        go_wp2_with fail
        refine (Calls.grown HCK.out).mono ?_
        rintro e w1 ⟨rfl, z1, rfl⟩
        go_wp2_with fail
        refine (Calls.gw_of (ST.out z1)).mono ?_
        rintro e w1 ⟨rfl, z2, rfl⟩
        go_wp2_with fail
        refine (Calls.gw_of (WA.out z2)).mono ?_
        rintro e w1 ⟨rfl, z3, rfl⟩
        go_wp2_with fail
        refine (Calls.gw_of (EN.out z3)).mono ?_
        rintro e w1 ⟨rfl, z4, rfl⟩
        go_upto_region 6 with (fail)
        obtain ⟨W2, hW2⟩ : ∃ W2, (((gw W1 z4)).alloc (.cells #[.int .i64 lo.n, .int .i64 lo.d] 78)).alloc (.cells #[.int .i64 hi.n, .int .i64 hi.d] 78) = W2 := ⟨_, rfl⟩
        have hbW2 : Below W1.heap.size W1 W2 := by rw [← hW2]; exact ((below_gw W1 z4).alloc (by simp [gw_size]) _).alloc (by simp [gw_size] <;> omega) _
        have ZrW2 := Lib.hid ((hbW2.block _ (Array.getElem?_eq_some_iff.1 Zc3.out).1).trans Zc3.out)
        have zloW2 : W2.heap[W1.heap.size + z4.bs.size]? = some (.cells #[.int .i64 lo.n, .int .i64 lo.d] 78 (0, 0)) := by rw [← hW2]; exact alloc_keep (alloc_at (by simp [gw_size]))
        have ZloW2 := Lib.hid zloW2; clear zloW2
        have zhiW2 : W2.heap[W1.heap.size + z4.bs.size + 1]? = some (.cells #[.int .i64 hi.n, .int .i64 hi.d] 78 (0, 0)) := by rw [← hW2]; exact alloc_at (by simp [gw_size] <;> omega)
        have ZhiW2 := Lib.hid zhiW2; clear zhiW2
        have HBW2 := Lib.hid (thru hbW2 HBc.out)
        have SBW2 := Lib.hid hbW2; clear hbW2
        have HWW2 := Lib.hid hW2; clear hW2
        rw [HWW2.out]
        have er0W2 : W2.cell? ⟨w.heap.size + 1 + 1 + 1, 0, none⟩ = some (.int .i64 0) := cell_of_block ZrW2.out 0 (by simp)
        have fr0W2 := frozen_of_block ZrW2.out 0
        have er1W2 : W2.cell? ⟨w.heap.size + 1 + 1 + 1, 1, none⟩ = some (.int .i64 0) := cell_of_block ZrW2.out 1 (by simp)
        have fr1W2 := frozen_of_block ZrW2.out 1
        have lrW2 := (Array.getElem?_eq_some_iff.1 ZrW2.out).1
        have elo0W2 : W2.cell? ⟨W1.heap.size + z4.bs.size, 0, none⟩ = some (.int .i64 lo.n) := cell_of_block ZloW2.out 0 (by simp)
        have elo1W2 : W2.cell? ⟨W1.heap.size + z4.bs.size, 1, none⟩ = some (.int .i64 lo.d) := cell_of_block ZloW2.out 1 (by simp)
        have lloW2 := (Array.getElem?_eq_some_iff.1 ZloW2.out).1
        have ehi0W2 : W2.cell? ⟨W1.heap.size + z4.bs.size + 1, 0, none⟩ = some (.int .i64 hi.n) := cell_of_block ZhiW2.out 0 (by simp)
        have ehi1W2 : W2.cell? ⟨W1.heap.size + z4.bs.size + 1, 1, none⟩ = some (.int .i64 hi.d) := cell_of_block ZhiW2.out 1 (by simp)
        have lhiW2 := (Array.getElem?_eq_some_iff.1 ZhiW2.out).1
        refine wp_region_gw_tail 5 (by kernel_rfl) (by kernel_rfl) ?_
        simp only [List.take_succ_cons, List.take_zero]
        repeat (go_big_quiet_step ((first | (go_at_call 53; with_reducible exact Calls.gw_of (FLO.out _)) | (go_at_call 55; with_reducible exact Calls.gw_of (FHI.out _)))))
        refine wpQuiet_nil ?_
        rintro _ ⟨z5, rfl⟩
        simp only [List.drop_succ_cons, List.drop_zero]
        go_wp2_with fail
        refine bodyPost_ret (v := .tuple #[.agg #[.int .i64 l, .int .i64 h], .int .i64 0]) (by simp [results, Try.results25, go_sem, *]) rfl ⟨rfl, ?_⟩
        exact ((HBW2.out.gw z5).setCell (by simp <;> omega) _).setCell (by simp <;> omega) _
end Go.Proofs.Ytohcopdfdmjhnaa.L1
