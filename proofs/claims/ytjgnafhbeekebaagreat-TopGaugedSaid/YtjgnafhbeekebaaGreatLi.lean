/- Contract of Measured: its errors. Contract of Measured. No conditions beyond each theorem's own. -/
import Derived.Test.YtjgnafhbeekebaaGreatSn
import Derived.Test.YtjgnafhbeekebaaGreatSq
import Derived.Test.YtjgnafhbeekebaaGreatLh
import Derived.Test.YtjgnafhbeekebaaGreatAw
set_option linter.unusedVariables false
set_option linter.unusedSimpArgs false
set_option linter.unusedSectionVars false
set_option linter.constructorNameAsVariable false
namespace Go.Proofs.YtjgnafhbeekebaaGreat.L1
open Go.RowKit
open Go.Proofs.YtjgnafhbeekebaaGreat

attribute [local go_sem] gw_cell gw_frozen gw_size

/-- the error ahead of the strength -/
def Tab.meB (t : Tab) (alo ahi : Int) : Bool := t.okB && spanB alo ahi 0 1099511627776

set_option maxRecDepth 100000 in
set_option maxHeartbeats 2000000 in
theorem Measured_bad (t : Tab) (alo ahi lo hi tlo thi : Int) (w : World) (hI : t.In w) (hf : t.Fits) (h : t.meB alo ahi = false) :
    Calls Tryz.prog 16 #[t.val, .agg #[.int .i64 alo, .int .i64 ahi], .agg #[.int .i64 lo, .int .i64 hi], .agg #[.int .i64 tlo, .int .i64 thi]] w fun e w' =>
      e = .returned (.tuple #[.agg #[.int .i64 0, .int .i64 0], .agg #[.int .i64 0, .int .i64 0], .agg #[.int .i64 0, .int .i64 0], .int .i64 1]) ∧ Below w.heap.size w w' := by
  obtain ⟨W1, hW1⟩ : ∃ W1, ((((((w.alloc (.cells #[.slice t.aT t.nT t.cT, .slice t.aS t.nS t.cS, .slice t.H.a t.H.n t.H.c, .slice t.R.a t.R.n t.R.c] 25)).alloc (.cells #[.int .i64 alo, .int .i64 ahi] 27)).alloc (.cells #[.int .i64 lo, .int .i64 hi] 27)).alloc (.cells #[.int .i64 tlo, .int .i64 thi] 27)).alloc (.cells #[.int .i64 0, .int .i64 0] 27)).alloc (.cells #[.int .i64 0, .int .i64 0] 27)).alloc (.cells #[.int .i64 0, .int .i64 0] 27) = W1 := ⟨_, rfl⟩
  have hBc : Below w.heap.size w W1 := by rw [← hW1]; exact ((((((below_alloc _ _).alloc (by simp) _).alloc (by simp <;> omega) _).alloc (by simp <;> omega) _).alloc (by simp <;> omega) _).alloc (by simp <;> omega) _).alloc (by simp <;> omega) _
  have zc0 : W1.heap[w.heap.size]? = some (.cells #[.slice t.aT t.nT t.cT, .slice t.aS t.nS t.cS, .slice t.H.a t.H.n t.H.c, .slice t.R.a t.R.n t.R.c] 25 (0, 0)) := by rw [← hW1]; exact alloc_keep (alloc_keep (alloc_keep (alloc_keep (alloc_keep (alloc_keep (alloc_at rfl))))))
  have zc1 : W1.heap[w.heap.size + 1]? = some (.cells #[.int .i64 alo, .int .i64 ahi] 27 (0, 0)) := by rw [← hW1]; exact alloc_keep (alloc_keep (alloc_keep (alloc_keep (alloc_keep (alloc_at (by simp))))))
  have zc2 : W1.heap[w.heap.size + 1 + 1]? = some (.cells #[.int .i64 lo, .int .i64 hi] 27 (0, 0)) := by rw [← hW1]; exact alloc_keep (alloc_keep (alloc_keep (alloc_keep (alloc_at (by simp <;> omega)))))
  have zc3 : W1.heap[w.heap.size + 1 + 1 + 1]? = some (.cells #[.int .i64 tlo, .int .i64 thi] 27 (0, 0)) := by rw [← hW1]; exact alloc_keep (alloc_keep (alloc_keep (alloc_at (by simp <;> omega))))
  have zc4 : W1.heap[w.heap.size + 1 + 1 + 1 + 1]? = some (.cells #[.int .i64 0, .int .i64 0] 27 (0, 0)) := by rw [← hW1]; exact alloc_keep (alloc_keep (alloc_at (by simp <;> omega)))
  have zc5 : W1.heap[w.heap.size + 1 + 1 + 1 + 1 + 1]? = some (.cells #[.int .i64 0, .int .i64 0] 27 (0, 0)) := by rw [← hW1]; exact alloc_keep (alloc_at (by simp <;> omega))
  have zc6 : W1.heap[w.heap.size + 1 + 1 + 1 + 1 + 1 + 1]? = some (.cells #[.int .i64 0, .int .i64 0] 27 (0, 0)) := by rw [← hW1]; exact alloc_at (by simp <;> omega)
  have c00 : W1.cell? ⟨w.heap.size, 0, none⟩ = some (.slice t.aT t.nT t.cT) := cell_of_block zc0 0 (by simp)
  have c01 : W1.cell? ⟨w.heap.size, 1, none⟩ = some (.slice t.aS t.nS t.cS) := cell_of_block zc0 1 (by simp)
  have c02 : W1.cell? ⟨w.heap.size, 2, none⟩ = some (.slice t.H.a t.H.n t.H.c) := cell_of_block zc0 2 (by simp)
  have c03 : W1.cell? ⟨w.heap.size, 3, none⟩ = some (.slice t.R.a t.R.n t.R.c) := cell_of_block zc0 3 (by simp)
  have c10 : W1.cell? ⟨w.heap.size + 1, 0, none⟩ = some (.int .i64 alo) := cell_of_block zc1 0 (by simp)
  have c11 : W1.cell? ⟨w.heap.size + 1, 1, none⟩ = some (.int .i64 ahi) := cell_of_block zc1 1 (by simp)
  have c20 : W1.cell? ⟨w.heap.size + 1 + 1, 0, none⟩ = some (.int .i64 lo) := cell_of_block zc2 0 (by simp)
  have c21 : W1.cell? ⟨w.heap.size + 1 + 1, 1, none⟩ = some (.int .i64 hi) := cell_of_block zc2 1 (by simp)
  have c30 : W1.cell? ⟨w.heap.size + 1 + 1 + 1, 0, none⟩ = some (.int .i64 tlo) := cell_of_block zc3 0 (by simp)
  have c31 : W1.cell? ⟨w.heap.size + 1 + 1 + 1, 1, none⟩ = some (.int .i64 thi) := cell_of_block zc3 1 (by simp)
  have c40 : W1.cell? ⟨w.heap.size + 1 + 1 + 1 + 1, 0, none⟩ = some (.int .i64 0) := cell_of_block zc4 0 (by simp)
  have c41 : W1.cell? ⟨w.heap.size + 1 + 1 + 1 + 1, 1, none⟩ = some (.int .i64 0) := cell_of_block zc4 1 (by simp)
  have c50 : W1.cell? ⟨w.heap.size + 1 + 1 + 1 + 1 + 1, 0, none⟩ = some (.int .i64 0) := cell_of_block zc5 0 (by simp)
  have c51 : W1.cell? ⟨w.heap.size + 1 + 1 + 1 + 1 + 1, 1, none⟩ = some (.int .i64 0) := cell_of_block zc5 1 (by simp)
  have c60 : W1.cell? ⟨w.heap.size + 1 + 1 + 1 + 1 + 1 + 1, 0, none⟩ = some (.int .i64 0) := cell_of_block zc6 0 (by simp)
  have c61 : W1.cell? ⟨w.heap.size + 1 + 1 + 1 + 1 + 1 + 1, 1, none⟩ = some (.int .i64 0) := cell_of_block zc6 1 (by simp)
  have lc0 := (Array.getElem?_eq_some_iff.1 zc0).1
  have lc1 := (Array.getElem?_eq_some_iff.1 zc1).1
  have lc2 := (Array.getElem?_eq_some_iff.1 zc2).1
  have lc3 := (Array.getElem?_eq_some_iff.1 zc3).1
  have lc4 := (Array.getElem?_eq_some_iff.1 zc4).1
  have lc5 := (Array.getElem?_eq_some_iff.1 zc5).1
  have lc6 := (Array.getElem?_eq_some_iff.1 zc6).1
  have fc40 := frozen_of_block zc4 0
  have fc41 := frozen_of_block zc4 1
  have fc50 := frozen_of_block zc5 0
  have fc51 := frozen_of_block zc5 1
  have fc60 := frozen_of_block zc6 0
  have fc61 := frozen_of_block zc6 1
  have Zc0 := Lib.hid zc0
  have Zc1 := Lib.hid zc1
  have Zc2 := Lib.hid zc2
  have Zc3 := Lib.hid zc3
  have Zc4 := Lib.hid zc4
  have Zc5 := Lib.hid zc5
  have Zc6 := Lib.hid zc6
  clear zc0 zc1 zc2 zc3 zc4 zc5 zc6
  have HBc := Lib.hid hBc; clear hBc
  have HWc := Lib.hid hW1; clear hW1
  have I1 := hI.below HBc.out
  have CK := Check_any t W1 I1 hf
  clear hI
  cases h1 : t.okB with
  | false =>
    rw [h1] at CK
    have HCK := Lib.hid CK
    clear h1 h CK I1
    unfold Tab.val at HCK ⊢
    go_enter Tryz.func16, Tryz.ntmps16
    go_upto_region 1 with (fail)
    rw [HWc.out]
    go_wp2_with fail
    refine (Calls.grown HCK.out).mono ?_
    rintro e w1 ⟨rfl, z1, rfl⟩
    go_upto_region 2 with (fail)
    go_region
    go_wp2_with fail
    refine bodyPost_ret (v := .tuple #[.agg #[.int .i64 0, .int .i64 0], .agg #[.int .i64 0, .int .i64 0], .agg #[.int .i64 0, .int .i64 0], .int .i64 1]) (by simp [results, Tryz.results16, go_sem, *]) rfl ⟨rfl, ?_⟩
    exact thru (below_drew _) (((((((HBc.out.gw z1).setCell (by simp <;> omega) _).setCell (by simp <;> omega) _).setCell (by simp <;> omega) _).setCell (by simp <;> omega) _).setCell (by simp <;> omega) _).setCell (by simp <;> omega) _)
  | true =>
    have h0 : spanB alo ahi 0 1099511627776 = false := by unfold Tab.meB at h; rw [h1] at h; exact h
    rw [h1] at CK
    have HCK := Lib.hid CK
    have IS := Lib.hid (fun w => isSpan_b (b := false) alo ahi 0 1099511627776 w h0)
    clear h1 h0 h CK I1
    unfold Tab.val at HCK ⊢
    go_enter Tryz.func16, Tryz.ntmps16
    go_upto_region 1 with (fail)
    rw [HWc.out]
    go_wp2_with fail
    refine (Calls.grown HCK.out).mono ?_
    rintro e w1 ⟨rfl, z1, rfl⟩
    go_wp2_with fail
    refine (Calls.gw_of (IS.out _)).mono ?_
    rintro e w1 ⟨rfl, z2, rfl⟩
    go_upto_region 2 with (fail)
    go_region
    go_wp2_with fail
    refine bodyPost_ret (v := .tuple #[.agg #[.int .i64 0, .int .i64 0], .agg #[.int .i64 0, .int .i64 0], .agg #[.int .i64 0, .int .i64 0], .int .i64 1]) (by simp [results, Tryz.results16, go_sem, *]) rfl ⟨rfl, ?_⟩
    exact thru (below_drew _) (((((((HBc.out.gw z2).setCell (by simp <;> omega) _).setCell (by simp <;> omega) _).setCell (by simp <;> omega) _).setCell (by simp <;> omega) _).setCell (by simp <;> omega) _).setCell (by simp <;> omega) _)
end Go.Proofs.YtjgnafhbeekebaaGreat.L1

namespace Go.Proofs.YtjgnafhbeekebaaGreat.L1
open Go.RowKit
open Go.Proofs.YtjgnafhbeekebaaGreat

attribute [local go_sem] gw_cell gw_frozen gw_size

def Tab.meE (t : Tab) (alo ahi lo hi tlo thi : Int) : Int := if t.meB alo ahi = true then (if t.strE lo hi tlo thi = 0 then t.voE alo ahi (t.strL lo hi tlo thi) (t.strH lo hi tlo thi) tlo thi else t.strE lo hi tlo thi) else 1
structure Me where
  vl : Int
  vh : Int
  sl : Int
  sh : Int
  pl : Int
  ph : Int
def Me.zero : Me := ⟨0, 0, 0, 0, 0, 0⟩
def Tab.meV (t : Tab) (alo ahi lo hi tlo thi : Int) : Me := if t.meE alo ahi lo hi tlo thi = 0 then ⟨t.voLo alo ahi (t.strL lo hi tlo thi) (t.strH lo hi tlo thi) tlo thi, t.voHi alo ahi (t.strL lo hi tlo thi) (t.strH lo hi tlo thi) tlo thi, t.strL lo hi tlo thi, t.strH lo hi tlo thi,
    puLo (t.voLo alo ahi (t.strL lo hi tlo thi) (t.strH lo hi tlo thi) tlo thi) (t.strL lo hi tlo thi), puHi (t.voHi alo ahi (t.strL lo hi tlo thi) (t.strH lo hi tlo thi) tlo thi) (t.strH lo hi tlo thi)⟩ else Me.zero
def Me.out (m : Me) (e : Int) : Ending := .returned (.tuple #[.agg #[.int .i64 m.vl, .int .i64 m.vh], .agg #[.int .i64 m.sl, .int .i64 m.sh], .agg #[.int .i64 m.pl, .int .i64 m.ph], .int .i64 e])
section
variable {t : Tab} {alo ahi lo hi tlo thi slo shi : Int}
/-- what Volume returns where it has no error -/
theorem vo_range (hE : t.voE alo ahi slo shi tlo thi = 0) : 0 ≤ t.voLo alo ahi slo shi tlo thi ∧ t.voLo alo ahi slo shi tlo thi ≤ t.voHi alo ahi slo shi tlo thi ∧ t.voHi alo ahi slo shi tlo thi ≤ 1099511627776 := by
  have h := hE
  unfold Tab.voE at h
  by_cases h1 : t.okB = true ∧ spanB alo ahi 0 1099511627776 = true
  · rw [if_pos h1] at h
    by_cases h2 : t.fitS slo shi = true ∧ t.fitT tlo thi = true
    · rw [if_pos h2] at h
      by_cases h3 : t.tb.volHi ahi slo shi tlo thi ≤ 1099511627776
      · have g := Tab.good h1.1
        have sp := spanB_t.1 h1.2
        have fs := Tab.fitS_t h2.1
        have ft := Tab.fitT_t h2.2
        have e1 : t.voLo alo ahi slo shi tlo thi = t.tb.volLo alo slo shi tlo thi := if_pos hE
        have e2 : t.voHi alo ahi slo shi tlo thi = t.tb.volHi ahi slo shi tlo thi := if_pos hE
        rw [e1, e2]
        have hr := g.ok.highV_range ft fs
        refine ⟨?_, g.ok.vol_le ft fs sp.1 sp.2.1, h3⟩
        unfold Tb.volLo volF Fr.flr
        exact Int.ediv_nonneg (Int.mul_nonneg (by have := sp.1; omega) (by have := hr.2.2.1; omega)) (by have := hr.2.2.2; simp only; omega)
      · rw [if_neg h3] at h; cases h
    · rw [if_neg h2] at h; cases h
  · rw [if_neg h1] at h; cases h
theorem str_range (hE : t.strE lo hi tlo thi = 0) : 0 ≤ t.strL lo hi tlo thi ∧ t.strL lo hi tlo thi ≤ t.strH lo hi tlo thi ∧ t.strH lo hi tlo thi ≤ 10000 ∧ t.tb.FitS (t.strL lo hi tlo thi) (t.strH lo hi tlo thi) := by
  obtain ⟨h1, h2, h3, h4⟩ := Tab.strE_zero hE
  have g := Tab.good h1
  have eL : t.strL lo hi tlo thi = t.tb.strLo lo tlo thi := if_pos hE
  have eH : t.strH lo hi tlo thi = t.tb.strHi hi tlo thi := if_pos hE
  have l1 := Tb.strLo_le (t := t.tb) (lo := lo) (tlo := tlo) (thi := thi)
  have l2 := Tb.strHi_last h4
  have l3 := g.ok.strLo_le_strHi h2 h4
  have b0 := g.ok.bS 0 (by have := g.ok.s2; omega)
  have b1 := g.ok.bS (t.tb.nS - 1) (by have := g.ok.s2; omega)
  have f0 : t.tb.first = t.tb.S 0 := rfl
  have f1 : t.tb.last = t.tb.S (t.tb.nS - 1) := rfl
  rw [eL, eH]
  refine ⟨by omega, l3, by omega, ⟨?_, l3, ?_⟩⟩
  · show t.tb.first ≤ _; omega
  · show _ ≤ t.tb.last; omega
end

set_option maxRecDepth 100000 in
set_option maxHeartbeats 4000000 in
theorem Measured_good (t : Tab) (alo ahi lo hi tlo thi : Int) (w : World) (hI : t.In w) (hf : t.Fits) (h : t.meB alo ahi = true) :
    Calls Tryz.prog 16 #[t.val, .agg #[.int .i64 alo, .int .i64 ahi], .agg #[.int .i64 lo, .int .i64 hi], .agg #[.int .i64 tlo, .int .i64 thi]] w fun e w' => e = (t.meV alo ahi lo hi tlo thi).out (t.meE alo ahi lo hi tlo thi) ∧ Below w.heap.size w w' := by
  obtain ⟨W1, hW1⟩ : ∃ W1, ((((((w.alloc (.cells #[.slice t.aT t.nT t.cT, .slice t.aS t.nS t.cS, .slice t.H.a t.H.n t.H.c, .slice t.R.a t.R.n t.R.c] 25)).alloc (.cells #[.int .i64 alo, .int .i64 ahi] 27)).alloc (.cells #[.int .i64 lo, .int .i64 hi] 27)).alloc (.cells #[.int .i64 tlo, .int .i64 thi] 27)).alloc (.cells #[.int .i64 0, .int .i64 0] 27)).alloc (.cells #[.int .i64 0, .int .i64 0] 27)).alloc (.cells #[.int .i64 0, .int .i64 0] 27) = W1 := ⟨_, rfl⟩
  have hBc : Below w.heap.size w W1 := by rw [← hW1]; exact ((((((below_alloc _ _).alloc (by simp) _).alloc (by simp <;> omega) _).alloc (by simp <;> omega) _).alloc (by simp <;> omega) _).alloc (by simp <;> omega) _).alloc (by simp <;> omega) _
  have zc0 : W1.heap[w.heap.size]? = some (.cells #[.slice t.aT t.nT t.cT, .slice t.aS t.nS t.cS, .slice t.H.a t.H.n t.H.c, .slice t.R.a t.R.n t.R.c] 25 (0, 0)) := by rw [← hW1]; exact alloc_keep (alloc_keep (alloc_keep (alloc_keep (alloc_keep (alloc_keep (alloc_at rfl))))))
  have zc1 : W1.heap[w.heap.size + 1]? = some (.cells #[.int .i64 alo, .int .i64 ahi] 27 (0, 0)) := by rw [← hW1]; exact alloc_keep (alloc_keep (alloc_keep (alloc_keep (alloc_keep (alloc_at (by simp))))))
  have zc2 : W1.heap[w.heap.size + 1 + 1]? = some (.cells #[.int .i64 lo, .int .i64 hi] 27 (0, 0)) := by rw [← hW1]; exact alloc_keep (alloc_keep (alloc_keep (alloc_keep (alloc_at (by simp <;> omega)))))
  have zc3 : W1.heap[w.heap.size + 1 + 1 + 1]? = some (.cells #[.int .i64 tlo, .int .i64 thi] 27 (0, 0)) := by rw [← hW1]; exact alloc_keep (alloc_keep (alloc_keep (alloc_at (by simp <;> omega))))
  have zc4 : W1.heap[w.heap.size + 1 + 1 + 1 + 1]? = some (.cells #[.int .i64 0, .int .i64 0] 27 (0, 0)) := by rw [← hW1]; exact alloc_keep (alloc_keep (alloc_at (by simp <;> omega)))
  have zc5 : W1.heap[w.heap.size + 1 + 1 + 1 + 1 + 1]? = some (.cells #[.int .i64 0, .int .i64 0] 27 (0, 0)) := by rw [← hW1]; exact alloc_keep (alloc_at (by simp <;> omega))
  have zc6 : W1.heap[w.heap.size + 1 + 1 + 1 + 1 + 1 + 1]? = some (.cells #[.int .i64 0, .int .i64 0] 27 (0, 0)) := by rw [← hW1]; exact alloc_at (by simp <;> omega)
  have c00 : W1.cell? ⟨w.heap.size, 0, none⟩ = some (.slice t.aT t.nT t.cT) := cell_of_block zc0 0 (by simp)
  have c01 : W1.cell? ⟨w.heap.size, 1, none⟩ = some (.slice t.aS t.nS t.cS) := cell_of_block zc0 1 (by simp)
  have c02 : W1.cell? ⟨w.heap.size, 2, none⟩ = some (.slice t.H.a t.H.n t.H.c) := cell_of_block zc0 2 (by simp)
  have c03 : W1.cell? ⟨w.heap.size, 3, none⟩ = some (.slice t.R.a t.R.n t.R.c) := cell_of_block zc0 3 (by simp)
  have c10 : W1.cell? ⟨w.heap.size + 1, 0, none⟩ = some (.int .i64 alo) := cell_of_block zc1 0 (by simp)
  have c11 : W1.cell? ⟨w.heap.size + 1, 1, none⟩ = some (.int .i64 ahi) := cell_of_block zc1 1 (by simp)
  have c20 : W1.cell? ⟨w.heap.size + 1 + 1, 0, none⟩ = some (.int .i64 lo) := cell_of_block zc2 0 (by simp)
  have c21 : W1.cell? ⟨w.heap.size + 1 + 1, 1, none⟩ = some (.int .i64 hi) := cell_of_block zc2 1 (by simp)
  have c30 : W1.cell? ⟨w.heap.size + 1 + 1 + 1, 0, none⟩ = some (.int .i64 tlo) := cell_of_block zc3 0 (by simp)
  have c31 : W1.cell? ⟨w.heap.size + 1 + 1 + 1, 1, none⟩ = some (.int .i64 thi) := cell_of_block zc3 1 (by simp)
  have c40 : W1.cell? ⟨w.heap.size + 1 + 1 + 1 + 1, 0, none⟩ = some (.int .i64 0) := cell_of_block zc4 0 (by simp)
  have c41 : W1.cell? ⟨w.heap.size + 1 + 1 + 1 + 1, 1, none⟩ = some (.int .i64 0) := cell_of_block zc4 1 (by simp)
  have c50 : W1.cell? ⟨w.heap.size + 1 + 1 + 1 + 1 + 1, 0, none⟩ = some (.int .i64 0) := cell_of_block zc5 0 (by simp)
  have c51 : W1.cell? ⟨w.heap.size + 1 + 1 + 1 + 1 + 1, 1, none⟩ = some (.int .i64 0) := cell_of_block zc5 1 (by simp)
  have c60 : W1.cell? ⟨w.heap.size + 1 + 1 + 1 + 1 + 1 + 1, 0, none⟩ = some (.int .i64 0) := cell_of_block zc6 0 (by simp)
  have c61 : W1.cell? ⟨w.heap.size + 1 + 1 + 1 + 1 + 1 + 1, 1, none⟩ = some (.int .i64 0) := cell_of_block zc6 1 (by simp)
  have lc0 := (Array.getElem?_eq_some_iff.1 zc0).1
  have lc1 := (Array.getElem?_eq_some_iff.1 zc1).1
  have lc2 := (Array.getElem?_eq_some_iff.1 zc2).1
  have lc3 := (Array.getElem?_eq_some_iff.1 zc3).1
  have lc4 := (Array.getElem?_eq_some_iff.1 zc4).1
  have lc5 := (Array.getElem?_eq_some_iff.1 zc5).1
  have lc6 := (Array.getElem?_eq_some_iff.1 zc6).1
  have fc40 := frozen_of_block zc4 0
  have fc41 := frozen_of_block zc4 1
  have fc50 := frozen_of_block zc5 0
  have fc51 := frozen_of_block zc5 1
  have fc60 := frozen_of_block zc6 0
  have fc61 := frozen_of_block zc6 1
  have Zc0 := Lib.hid zc0
  have Zc1 := Lib.hid zc1
  have Zc2 := Lib.hid zc2
  have Zc3 := Lib.hid zc3
  have Zc4 := Lib.hid zc4
  have Zc5 := Lib.hid zc5
  have Zc6 := Lib.hid zc6
  clear zc0 zc1 zc2 zc3 zc4 zc5 zc6
  have HBc := Lib.hid hBc; clear hBc
  have HWc := Lib.hid hW1; clear hW1
  have I1 := hI.below HBc.out
  have h1 : t.okB = true := by unfold Tab.meB at h; cases e : t.okB with | true => rfl | false => rw [e] at h; cases h
  have h0 : spanB alo ahi 0 1099511627776 = true := by unfold Tab.meB at h; rw [h1] at h; exact h
  have CK := Check_any t W1 I1 hf
  rw [h1] at CK
  have HCK := Lib.hid CK
  have IS := Lib.hid (fun w => isSpan_b (b := true) alo ahi 0 1099511627776 w h0)
  have EE := Lib.hid (show t.meE alo ahi lo hi tlo thi = if t.strE lo hi tlo thi = 0 then t.voE alo ahi (t.strL lo hi tlo thi) (t.strH lo hi tlo thi) tlo thi else t.strE lo hi tlo thi by unfold Tab.meE; rw [if_pos h])
  have SR := Lib.hid (fun (h : t.strE lo hi tlo thi = 0) => str_range h)
  have VR := Lib.hid (fun (h : t.voE alo ahi (t.strL lo hi tlo thi) (t.strH lo hi tlo thi) tlo thi = 0) => vo_range h)
  have SZ := Lib.hid (fun (h : ¬ t.strE lo hi tlo thi = 0) => Tab.str_zero h)
  have VZ := Lib.hid (fun (h : ¬ t.voE alo ahi (t.strL lo hi tlo thi) (t.strH lo hi tlo thi) tlo thi = 0) => Tab.vo_zero h)
  have EV := Lib.hid (show t.meV alo ahi lo hi tlo thi = if t.meE alo ahi lo hi tlo thi = 0 then ⟨t.voLo alo ahi (t.strL lo hi tlo thi) (t.strH lo hi tlo thi) tlo thi, t.voHi alo ahi (t.strL lo hi tlo thi) (t.strH lo hi tlo thi) tlo thi, t.strL lo hi tlo thi, t.strH lo hi tlo thi,
    puLo (t.voLo alo ahi (t.strL lo hi tlo thi) (t.strH lo hi tlo thi) tlo thi) (t.strL lo hi tlo thi), puHi (t.voHi alo ahi (t.strL lo hi tlo thi) (t.strH lo hi tlo thi) tlo thi) (t.strH lo hi tlo thi)⟩ else Me.zero from rfl)
  have ST' := Lib.hid (fun W (hb : Below W1.heap.size W1 W) => Strength_any t lo hi tlo thi W (I1.below hb) hf)
  have VO' := Lib.hid (fun W (hb : Below W1.heap.size W1 W) => Volume_any t alo ahi (t.strL lo hi tlo thi) (t.strH lo hi tlo thi) tlo thi W (I1.below hb) hf)
  clear hI h1 h0 h CK I1 hf
  generalize t.meV alo ahi lo hi tlo thi = m at *
  generalize t.meE alo ahi lo hi tlo thi = e9 at *
  generalize t.voLo alo ahi (t.strL lo hi tlo thi) (t.strH lo hi tlo thi) tlo thi = vl at *
  generalize t.voHi alo ahi (t.strL lo hi tlo thi) (t.strH lo hi tlo thi) tlo thi = vh at *
  generalize t.voE alo ahi (t.strL lo hi tlo thi) (t.strH lo hi tlo thi) tlo thi = ve at *
  have FS : Hid (t.strE lo hi tlo thi = 0 → 0 ≤ t.strL lo hi tlo thi ∧ t.strL lo hi tlo thi ≤ t.strH lo hi tlo thi ∧ t.strH lo hi tlo thi ≤ 10000) := Lib.hid (fun h => ⟨(SR.out h).1, (SR.out h).2.1, (SR.out h).2.2.1⟩)
  clear SR
  generalize t.strL lo hi tlo thi = sl at *
  generalize t.strH lo hi tlo thi = sh at *
  generalize t.strE lo hi tlo thi = se at *
  unfold Tab.val at HCK ST' VO' ⊢
  obtain ⟨E, hE⟩ : ∃ E, m.out e9 = E := ⟨_, rfl⟩
  rw [hE]
  have HE := Lib.hid hE
  clear hE
  go_enter Tryz.func16, Tryz.ntmps16
  go_upto_region 1 with (fail)
  rw [HWc.out]
  go_wp2_with fail
  refine (Calls.grown HCK.out).mono ?_
  rintro e w1 ⟨rfl, z1, rfl⟩
  go_wp2_with fail
  refine (Calls.gw_of (IS.out _)).mono ?_
  rintro e w1 ⟨rfl, z2, rfl⟩
  go_wp2_with fail
  refine (Calls.gw_of (ST'.out _ (below_gw W1 z2))).mono ?_
  rintro e w1 ⟨rfl, z3, rfl⟩
  by_cases hs : se = 0
  · obtain ⟨f1, f2, f3⟩ := FS.out hs
    have e1 := EE.out
    rw [if_pos hs] at e1
    replace EE := Lib.hid e1
    clear e1
    subst hs
    go_upto_region 4 with (fail)
    obtain ⟨W2, hW2⟩ : ∃ W2, ((gw W1 z3)).alloc (.cells #[.int .i64 sl, .int .i64 sh] 27) = W2 := ⟨_, rfl⟩
    have hbW2 : Below W1.heap.size W1 W2 := by rw [← hW2]; exact (below_gw W1 z3).alloc (by simp [gw_size]) _
    have ZtW2 := Lib.hid ((hbW2.block _ (Array.getElem?_eq_some_iff.1 Zc0.out).1).trans Zc0.out)
    have ZaW2 := Lib.hid ((hbW2.block _ (Array.getElem?_eq_some_iff.1 Zc1.out).1).trans Zc1.out)
    have ZxW2 := Lib.hid ((hbW2.block _ (Array.getElem?_eq_some_iff.1 Zc2.out).1).trans Zc2.out)
    have ZmW2 := Lib.hid ((hbW2.block _ (Array.getElem?_eq_some_iff.1 Zc3.out).1).trans Zc3.out)
    have ZpW2 := Lib.hid ((hbW2.block _ (Array.getElem?_eq_some_iff.1 Zc4.out).1).trans Zc4.out)
    have ZqW2 := Lib.hid ((hbW2.block _ (Array.getElem?_eq_some_iff.1 Zc5.out).1).trans Zc5.out)
    have ZrW2 := Lib.hid ((hbW2.block _ (Array.getElem?_eq_some_iff.1 Zc6.out).1).trans Zc6.out)
    have zsW2 : W2.heap[W1.heap.size + z3.bs.size]? = some (.cells #[.int .i64 sl, .int .i64 sh] 27 (0, 0)) := by rw [← hW2]; exact alloc_at (by simp [gw_size])
    have ZsW2 := Lib.hid zsW2; clear zsW2
    have HBW2 := Lib.hid (thru hbW2 HBc.out)
    have SBW2 := Lib.hid hbW2; clear hbW2
    have HWW2 := Lib.hid hW2; clear hW2
    rw [HWW2.out]
    clear c00 c01 c02 c03 c10 c11 c20 c21 c30 c31 c40 c41 c50 c51 c60 c61 fc40 fc41 fc50 fc51 fc60 fc61
    have S2 := Lib.hid SBW2.out
    have et0W2 : W2.cell? ⟨w.heap.size, 0, none⟩ = some (.slice t.aT t.nT t.cT) := cell_of_block ZtW2.out 0 (by simp)
    have et1W2 : W2.cell? ⟨w.heap.size, 1, none⟩ = some (.slice t.aS t.nS t.cS) := cell_of_block ZtW2.out 1 (by simp)
    have et2W2 : W2.cell? ⟨w.heap.size, 2, none⟩ = some (.slice t.H.a t.H.n t.H.c) := cell_of_block ZtW2.out 2 (by simp)
    have et3W2 : W2.cell? ⟨w.heap.size, 3, none⟩ = some (.slice t.R.a t.R.n t.R.c) := cell_of_block ZtW2.out 3 (by simp)
    have ltW2 := (Array.getElem?_eq_some_iff.1 ZtW2.out).1
    have ea0W2 : W2.cell? ⟨w.heap.size + 1, 0, none⟩ = some (.int .i64 alo) := cell_of_block ZaW2.out 0 (by simp)
    have ea1W2 : W2.cell? ⟨w.heap.size + 1, 1, none⟩ = some (.int .i64 ahi) := cell_of_block ZaW2.out 1 (by simp)
    have laW2 := (Array.getElem?_eq_some_iff.1 ZaW2.out).1
    have em0W2 : W2.cell? ⟨w.heap.size + 1 + 1 + 1, 0, none⟩ = some (.int .i64 tlo) := cell_of_block ZmW2.out 0 (by simp)
    have em1W2 : W2.cell? ⟨w.heap.size + 1 + 1 + 1, 1, none⟩ = some (.int .i64 thi) := cell_of_block ZmW2.out 1 (by simp)
    have lmW2 := (Array.getElem?_eq_some_iff.1 ZmW2.out).1
    have es0W2 : W2.cell? ⟨W1.heap.size + z3.bs.size, 0, none⟩ = some (.int .i64 sl) := cell_of_block ZsW2.out 0 (by simp)
    have es1W2 : W2.cell? ⟨W1.heap.size + z3.bs.size, 1, none⟩ = some (.int .i64 sh) := cell_of_block ZsW2.out 1 (by simp)
    have lsW2 := (Array.getElem?_eq_some_iff.1 ZsW2.out).1
    go_wp2_with fail
    refine (Calls.grown (VO'.out _ (S2.out))).mono ?_
    rintro e w1 ⟨rfl, z4, rfl⟩
    by_cases hv : ve = 0
    · obtain ⟨v1, v2, v3⟩ := VR.out hv
      have e1 := EE.out
      rw [hv] at e1
      have e2 := EV.out
      rw [if_pos e1] at e2
      have e3 := HE.out
      rw [e1, e2] at e3
      unfold Me.out at e3
      dsimp only at e3
      replace HE := Lib.hid e3
      clear e1 e2 e3
      subst hv
      have PU := Lib.hid (fun w => pure_any vl vh sl sh w v1 (by omega) (by omega) v3 f1 (by omega) (by omega) f3)
      clear EE EV VR VZ SZ FS f1 f2 f3 v1 v2 v3
      generalize puLo vl sl = pl at *
      generalize puHi vh sh = ph at *
      go_upto_region 9 with (fail)
      obtain ⟨W3, hW3⟩ : ∃ W3, ((gw W2 z4)).alloc (.cells #[.int .i64 vl, .int .i64 vh] 27) = W3 := ⟨_, rfl⟩
      have hbW3 : Below W2.heap.size W2 W3 := by rw [← hW3]; exact (below_gw W2 z4).alloc (by simp [gw_size]) _
      have ZtW3 := Lib.hid ((hbW3.block _ (Array.getElem?_eq_some_iff.1 ZtW2.out).1).trans ZtW2.out)
      have ZaW3 := Lib.hid ((hbW3.block _ (Array.getElem?_eq_some_iff.1 ZaW2.out).1).trans ZaW2.out)
      have ZxW3 := Lib.hid ((hbW3.block _ (Array.getElem?_eq_some_iff.1 ZxW2.out).1).trans ZxW2.out)
      have ZmW3 := Lib.hid ((hbW3.block _ (Array.getElem?_eq_some_iff.1 ZmW2.out).1).trans ZmW2.out)
      have ZpW3 := Lib.hid ((hbW3.block _ (Array.getElem?_eq_some_iff.1 ZpW2.out).1).trans ZpW2.out)
      have ZqW3 := Lib.hid ((hbW3.block _ (Array.getElem?_eq_some_iff.1 ZqW2.out).1).trans ZqW2.out)
      have ZrW3 := Lib.hid ((hbW3.block _ (Array.getElem?_eq_some_iff.1 ZrW2.out).1).trans ZrW2.out)
      have ZsW3 := Lib.hid ((hbW3.block _ (Array.getElem?_eq_some_iff.1 ZsW2.out).1).trans ZsW2.out)
      have zvW3 : W3.heap[W2.heap.size + z4.bs.size]? = some (.cells #[.int .i64 vl, .int .i64 vh] 27 (0, 0)) := by rw [← hW3]; exact alloc_at (by simp [gw_size])
      have ZvW3 := Lib.hid zvW3; clear zvW3
      have HBW3 := Lib.hid (thru hbW3 HBW2.out)
      have SBW3 := Lib.hid hbW3; clear hbW3
      have HWW3 := Lib.hid hW3; clear hW3
      rw [HWW3.out]
      clear et0W2 et1W2 et2W2 et3W2 ea0W2 ea1W2 em0W2 em1W2 es0W2 es1W2
      have S3 := Lib.hid (S2.out.trans (SBW3.out.mono S2.out.size))
      have ep0W3 : W3.cell? ⟨w.heap.size + 1 + 1 + 1 + 1, 0, none⟩ = some (.int .i64 0) := cell_of_block ZpW3.out 0 (by simp)
      have fp0W3 := frozen_of_block ZpW3.out 0
      have ep1W3 : W3.cell? ⟨w.heap.size + 1 + 1 + 1 + 1, 1, none⟩ = some (.int .i64 0) := cell_of_block ZpW3.out 1 (by simp)
      have fp1W3 := frozen_of_block ZpW3.out 1
      have lpW3 := (Array.getElem?_eq_some_iff.1 ZpW3.out).1
      have eq0W3 : W3.cell? ⟨w.heap.size + 1 + 1 + 1 + 1 + 1, 0, none⟩ = some (.int .i64 0) := cell_of_block ZqW3.out 0 (by simp)
      have fq0W3 := frozen_of_block ZqW3.out 0
      have eq1W3 : W3.cell? ⟨w.heap.size + 1 + 1 + 1 + 1 + 1, 1, none⟩ = some (.int .i64 0) := cell_of_block ZqW3.out 1 (by simp)
      have fq1W3 := frozen_of_block ZqW3.out 1
      have lqW3 := (Array.getElem?_eq_some_iff.1 ZqW3.out).1
      have er0W3 : W3.cell? ⟨w.heap.size + 1 + 1 + 1 + 1 + 1 + 1, 0, none⟩ = some (.int .i64 0) := cell_of_block ZrW3.out 0 (by simp)
      have fr0W3 := frozen_of_block ZrW3.out 0
      have er1W3 : W3.cell? ⟨w.heap.size + 1 + 1 + 1 + 1 + 1 + 1, 1, none⟩ = some (.int .i64 0) := cell_of_block ZrW3.out 1 (by simp)
      have fr1W3 := frozen_of_block ZrW3.out 1
      have lrW3 := (Array.getElem?_eq_some_iff.1 ZrW3.out).1
      have es0W3 : W3.cell? ⟨W1.heap.size + z3.bs.size, 0, none⟩ = some (.int .i64 sl) := cell_of_block ZsW3.out 0 (by simp)
      have es1W3 : W3.cell? ⟨W1.heap.size + z3.bs.size, 1, none⟩ = some (.int .i64 sh) := cell_of_block ZsW3.out 1 (by simp)
      have lsW3 := (Array.getElem?_eq_some_iff.1 ZsW3.out).1
      have ev0W3 : W3.cell? ⟨W2.heap.size + z4.bs.size, 0, none⟩ = some (.int .i64 vl) := cell_of_block ZvW3.out 0 (by simp)
      have ev1W3 : W3.cell? ⟨W2.heap.size + z4.bs.size, 1, none⟩ = some (.int .i64 vh) := cell_of_block ZvW3.out 1 (by simp)
      have lvW3 := (Array.getElem?_eq_some_iff.1 ZvW3.out).1
      refine wp_region_put3 [true, true, true, true, true, false, false, false, true] ⟨5, 8, 52, 27, (w.heap.size + 1 + 1 + 1 + 1), #[.int .i64 0, .int .i64 0], #[.int .i64 vl, .int .i64 vh]⟩ ⟨6, 9, 53, 27, (w.heap.size + 1 + 1 + 1 + 1 + 1), #[.int .i64 0, .int .i64 0], #[.int .i64 sl, .int .i64 sh]⟩ ⟨7, 10, 56, 27, (w.heap.size + 1 + 1 + 1 + 1 + 1 + 1), #[.int .i64 0, .int .i64 0], #[.int .i64 pl, .int .i64 ph]⟩ (by kernel_rfl) rfl (by kernel_rfl) (fun s hs => by injection (show some _ = some s from hs) with hs; subst hs; rfl) (fun s hs => by injection (show some _ = some s from hs) with hs; subst hs; rfl) (fun s hs => by injection (show some _ = some s from hs) with hs; subst hs; rfl) (by dsimp only; omega) (by dsimp only; omega) (by dsimp only; omega) ZpW3.out ZqW3.out ZrW3.out (by kernel_rfl) (by kernel_rfl) (by kernel_rfl) rfl rfl rfl (by simp [Value.oneCell']) (by simp [Value.oneCell']) (by simp [Value.oneCell']) ?_
      apply Exists.intro
      refine ⟨fun Wx hN hZ S hS hx => ?_, ?_, ?_, ?_, fun wx PX => ?_⟩
      · haveI := hx
        have ys := hN _ _ (by dsimp only; omega) (by dsimp only; omega) (by dsimp only; omega) ZsW3.out
        have ys0 : Wx.cell? ⟨W1.heap.size + z3.bs.size, 0, none⟩ = some (.int .i64 sl) := cell_of_block ys 0 (by simp)
        have ys1 : Wx.cell? ⟨W1.heap.size + z3.bs.size, 1, none⟩ = some (.int .i64 sh) := cell_of_block ys 1 (by simp)
        have yls := (Array.getElem?_eq_some_iff.1 ys).1
        clear ys
        have yv := hN _ _ (by dsimp only; omega) (by dsimp only; omega) (by dsimp only; omega) ZvW3.out
        have yv0 : Wx.cell? ⟨W2.heap.size + z4.bs.size, 0, none⟩ = some (.int .i64 vl) := cell_of_block yv 0 (by simp)
        have yv1 : Wx.cell? ⟨W2.heap.size + z4.bs.size, 1, none⟩ = some (.int .i64 vh) := cell_of_block yv 1 (by simp)
        have ylv := (Array.getElem?_eq_some_iff.1 yv).1
        clear yv
        clear hN hZ
        simp only [pickM]
        repeat (go_big_quiet_step ((go_at_call 35; with_reducible exact Calls.gwS hS (PU.out _))))
        exact wpQuiet_nil rfl
      · exact ⟨rfl, rfl⟩
      · exact ⟨rfl, rfl⟩
      · exact ⟨rfl, rfl⟩
      have x0 := cell_of_block PX.b1 0 (by simp)
      have x1 := cell_of_block PX.b1 1 (by simp)
      have x2 := cell_of_block PX.b2 0 (by simp)
      have x3 := cell_of_block PX.b2 1 (by simp)
      have x4 := cell_of_block PX.b3 0 (by simp)
      have x5 := cell_of_block PX.b3 1 (by simp)
      simp only [List.getElem_toArray, List.getElem_cons_zero, List.getElem_cons_succ] at x0 x1 x2 x3 x4 x5
      have LOW := Lib.hid (PX.below HBW3.out (Nat.le_refl _) (by dsimp only; omega) (by dsimp only; omega) (by dsimp only; omega))
      clear PX
      go_wp2_with fail
      refine bodyPost_ret (v := .tuple #[.agg #[.int .i64 vl, .int .i64 vh], .agg #[.int .i64 sl, .int .i64 sh], .agg #[.int .i64 pl, .int .i64 ph], .int .i64 0]) (by simp [results, Tryz.results16, go_sem, *]) rfl ⟨HE.out, LOW.out⟩
    · have z0 := VZ.out hv
      obtain ⟨z0a, z0b⟩ := z0
      subst z0a z0b
      have e1 := EE.out
      have e2 := EV.out
      rw [if_neg (by rw [e1]; exact hv)] at e2
      have e3 := HE.out
      rw [e1, e2] at e3
      unfold Me.out Me.zero at e3
      dsimp only at e3
      replace HE := Lib.hid e3
      clear e1 e2 e3 EE EV VR VZ SZ FS f1 f2 f3
      go_upto_region 8 with (fail)
      obtain ⟨W3, hW3⟩ : ∃ W3, ((gw W2 z4)).alloc (.cells #[.int .i64 0, .int .i64 0] 27) = W3 := ⟨_, rfl⟩
      have hbW3 : Below W2.heap.size W2 W3 := by rw [← hW3]; exact (below_gw W2 z4).alloc (by simp [gw_size]) _
      have ZtW3 := Lib.hid ((hbW3.block _ (Array.getElem?_eq_some_iff.1 ZtW2.out).1).trans ZtW2.out)
      have ZaW3 := Lib.hid ((hbW3.block _ (Array.getElem?_eq_some_iff.1 ZaW2.out).1).trans ZaW2.out)
      have ZxW3 := Lib.hid ((hbW3.block _ (Array.getElem?_eq_some_iff.1 ZxW2.out).1).trans ZxW2.out)
      have ZmW3 := Lib.hid ((hbW3.block _ (Array.getElem?_eq_some_iff.1 ZmW2.out).1).trans ZmW2.out)
      have ZpW3 := Lib.hid ((hbW3.block _ (Array.getElem?_eq_some_iff.1 ZpW2.out).1).trans ZpW2.out)
      have ZqW3 := Lib.hid ((hbW3.block _ (Array.getElem?_eq_some_iff.1 ZqW2.out).1).trans ZqW2.out)
      have ZrW3 := Lib.hid ((hbW3.block _ (Array.getElem?_eq_some_iff.1 ZrW2.out).1).trans ZrW2.out)
      have ZsW3 := Lib.hid ((hbW3.block _ (Array.getElem?_eq_some_iff.1 ZsW2.out).1).trans ZsW2.out)
      have zvW3 : W3.heap[W2.heap.size + z4.bs.size]? = some (.cells #[.int .i64 0, .int .i64 0] 27 (0, 0)) := by rw [← hW3]; exact alloc_at (by simp [gw_size])
      have ZvW3 := Lib.hid zvW3; clear zvW3
      have HBW3 := Lib.hid (thru hbW3 HBW2.out)
      have SBW3 := Lib.hid hbW3; clear hbW3
      have HWW3 := Lib.hid hW3; clear hW3
      rw [HWW3.out]
      clear et0W2 et1W2 et2W2 et3W2 ea0W2 ea1W2 em0W2 em1W2 es0W2 es1W2
      have S3 := Lib.hid (S2.out.trans (SBW3.out.mono S2.out.size))
      have ep0W3 : W3.cell? ⟨w.heap.size + 1 + 1 + 1 + 1, 0, none⟩ = some (.int .i64 0) := cell_of_block ZpW3.out 0 (by simp)
      have fp0W3 := frozen_of_block ZpW3.out 0
      have ep1W3 : W3.cell? ⟨w.heap.size + 1 + 1 + 1 + 1, 1, none⟩ = some (.int .i64 0) := cell_of_block ZpW3.out 1 (by simp)
      have fp1W3 := frozen_of_block ZpW3.out 1
      have lpW3 := (Array.getElem?_eq_some_iff.1 ZpW3.out).1
      have eq0W3 : W3.cell? ⟨w.heap.size + 1 + 1 + 1 + 1 + 1, 0, none⟩ = some (.int .i64 0) := cell_of_block ZqW3.out 0 (by simp)
      have fq0W3 := frozen_of_block ZqW3.out 0
      have eq1W3 : W3.cell? ⟨w.heap.size + 1 + 1 + 1 + 1 + 1, 1, none⟩ = some (.int .i64 0) := cell_of_block ZqW3.out 1 (by simp)
      have fq1W3 := frozen_of_block ZqW3.out 1
      have lqW3 := (Array.getElem?_eq_some_iff.1 ZqW3.out).1
      have er0W3 : W3.cell? ⟨w.heap.size + 1 + 1 + 1 + 1 + 1 + 1, 0, none⟩ = some (.int .i64 0) := cell_of_block ZrW3.out 0 (by simp)
      have fr0W3 := frozen_of_block ZrW3.out 0
      have er1W3 : W3.cell? ⟨w.heap.size + 1 + 1 + 1 + 1 + 1 + 1, 1, none⟩ = some (.int .i64 0) := cell_of_block ZrW3.out 1 (by simp)
      have fr1W3 := frozen_of_block ZrW3.out 1
      have lrW3 := (Array.getElem?_eq_some_iff.1 ZrW3.out).1
      have es0W3 : W3.cell? ⟨W1.heap.size + z3.bs.size, 0, none⟩ = some (.int .i64 sl) := cell_of_block ZsW3.out 0 (by simp)
      have es1W3 : W3.cell? ⟨W1.heap.size + z3.bs.size, 1, none⟩ = some (.int .i64 sh) := cell_of_block ZsW3.out 1 (by simp)
      have lsW3 := (Array.getElem?_eq_some_iff.1 ZsW3.out).1
      go_region
      go_wp2_with fail
      refine bodyPost_ret (v := .tuple #[.agg #[.int .i64 0, .int .i64 0], .agg #[.int .i64 0, .int .i64 0], .agg #[.int .i64 0, .int .i64 0], .int .i64 ve]) (by simp [results, Tryz.results16, go_sem, *]) rfl ⟨?_, ?_⟩
      · exact HE.out
      · exact thru (below_drew _) (((((((HBW3.out).setCell (by simp <;> omega) _).setCell (by simp <;> omega) _).setCell (by simp <;> omega) _).setCell (by simp <;> omega) _).setCell (by simp <;> omega) _).setCell (by simp <;> omega) _)
  · have z0 := SZ.out hs
    obtain ⟨z0a, z0b⟩ := z0
    subst z0a z0b
    have e1 := EE.out
    rw [if_neg hs] at e1
    have e2 := EV.out
    rw [if_neg (by rw [e1]; exact hs)] at e2
    have e3 := HE.out
    rw [e1, e2] at e3
    unfold Me.out Me.zero at e3
    dsimp only at e3
    replace HE := Lib.hid e3
    clear e1 e2 e3 EE EV VR VZ SZ FS
    go_upto_region 5 with (fail)
    obtain ⟨W2, hW2⟩ : ∃ W2, ((gw W1 z3)).alloc (.cells #[.int .i64 0, .int .i64 0] 27) = W2 := ⟨_, rfl⟩
    have hbW2 : Below W1.heap.size W1 W2 := by rw [← hW2]; exact (below_gw W1 z3).alloc (by simp [gw_size]) _
    have ZtW2 := Lib.hid ((hbW2.block _ (Array.getElem?_eq_some_iff.1 Zc0.out).1).trans Zc0.out)
    have ZaW2 := Lib.hid ((hbW2.block _ (Array.getElem?_eq_some_iff.1 Zc1.out).1).trans Zc1.out)
    have ZxW2 := Lib.hid ((hbW2.block _ (Array.getElem?_eq_some_iff.1 Zc2.out).1).trans Zc2.out)
    have ZmW2 := Lib.hid ((hbW2.block _ (Array.getElem?_eq_some_iff.1 Zc3.out).1).trans Zc3.out)
    have ZpW2 := Lib.hid ((hbW2.block _ (Array.getElem?_eq_some_iff.1 Zc4.out).1).trans Zc4.out)
    have ZqW2 := Lib.hid ((hbW2.block _ (Array.getElem?_eq_some_iff.1 Zc5.out).1).trans Zc5.out)
    have ZrW2 := Lib.hid ((hbW2.block _ (Array.getElem?_eq_some_iff.1 Zc6.out).1).trans Zc6.out)
    have zsW2 : W2.heap[W1.heap.size + z3.bs.size]? = some (.cells #[.int .i64 0, .int .i64 0] 27 (0, 0)) := by rw [← hW2]; exact alloc_at (by simp [gw_size])
    have ZsW2 := Lib.hid zsW2; clear zsW2
    have HBW2 := Lib.hid (thru hbW2 HBc.out)
    have SBW2 := Lib.hid hbW2; clear hbW2
    have HWW2 := Lib.hid hW2; clear hW2
    rw [HWW2.out]
    clear c00 c01 c02 c03 c10 c11 c20 c21 c30 c31 c40 c41 c50 c51 c60 c61 fc40 fc41 fc50 fc51 fc60 fc61
    have S2 := Lib.hid SBW2.out
    have ep0W2 : W2.cell? ⟨w.heap.size + 1 + 1 + 1 + 1, 0, none⟩ = some (.int .i64 0) := cell_of_block ZpW2.out 0 (by simp)
    have fp0W2 := frozen_of_block ZpW2.out 0
    have ep1W2 : W2.cell? ⟨w.heap.size + 1 + 1 + 1 + 1, 1, none⟩ = some (.int .i64 0) := cell_of_block ZpW2.out 1 (by simp)
    have fp1W2 := frozen_of_block ZpW2.out 1
    have lpW2 := (Array.getElem?_eq_some_iff.1 ZpW2.out).1
    have eq0W2 : W2.cell? ⟨w.heap.size + 1 + 1 + 1 + 1 + 1, 0, none⟩ = some (.int .i64 0) := cell_of_block ZqW2.out 0 (by simp)
    have fq0W2 := frozen_of_block ZqW2.out 0
    have eq1W2 : W2.cell? ⟨w.heap.size + 1 + 1 + 1 + 1 + 1, 1, none⟩ = some (.int .i64 0) := cell_of_block ZqW2.out 1 (by simp)
    have fq1W2 := frozen_of_block ZqW2.out 1
    have lqW2 := (Array.getElem?_eq_some_iff.1 ZqW2.out).1
    have er0W2 : W2.cell? ⟨w.heap.size + 1 + 1 + 1 + 1 + 1 + 1, 0, none⟩ = some (.int .i64 0) := cell_of_block ZrW2.out 0 (by simp)
    have fr0W2 := frozen_of_block ZrW2.out 0
    have er1W2 : W2.cell? ⟨w.heap.size + 1 + 1 + 1 + 1 + 1 + 1, 1, none⟩ = some (.int .i64 0) := cell_of_block ZrW2.out 1 (by simp)
    have fr1W2 := frozen_of_block ZrW2.out 1
    have lrW2 := (Array.getElem?_eq_some_iff.1 ZrW2.out).1
    go_region
    go_wp2_with fail
    refine bodyPost_ret (v := .tuple #[.agg #[.int .i64 0, .int .i64 0], .agg #[.int .i64 0, .int .i64 0], .agg #[.int .i64 0, .int .i64 0], .int .i64 se]) (by simp [results, Tryz.results16, go_sem, *]) rfl ⟨?_, ?_⟩
    · exact HE.out
    · exact thru (below_drew _) (((((((HBW2.out).setCell (by simp <;> omega) _).setCell (by simp <;> omega) _).setCell (by simp <;> omega) _).setCell (by simp <;> omega) _).setCell (by simp <;> omega) _).setCell (by simp <;> omega) _)

theorem Measured_any (t : Tab) (alo ahi lo hi tlo thi : Int) (w : World) (hI : t.In w) (hf : t.Fits) :
    Calls Tryz.prog 16 #[t.val, .agg #[.int .i64 alo, .int .i64 ahi], .agg #[.int .i64 lo, .int .i64 hi], .agg #[.int .i64 tlo, .int .i64 thi]] w fun e w' => e = (t.meV alo ahi lo hi tlo thi).out (t.meE alo ahi lo hi tlo thi) ∧ Below w.heap.size w w' := by
  cases h : t.meB alo ahi with
  | true => exact Measured_good t alo ahi lo hi tlo thi w hI hf h
  | false =>
    have e1 : t.meE alo ahi lo hi tlo thi = 1 := by unfold Tab.meE; rw [h]; rfl
    have e2 : t.meV alo ahi lo hi tlo thi = Me.zero := if_neg (by rw [e1]; decide)
    rw [e1, e2]
    exact Measured_bad t alo ahi lo hi tlo thi w hI hf h
end Go.Proofs.YtjgnafhbeekebaaGreat.L1
