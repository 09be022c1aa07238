/- Contract of Volume. No conditions beyond each theorem's own. -/
import Derived.Test.YtjgnafhbeekebaaGreatLf
import Derived.Test.YtjgnafhbeekebaaGreatLg
set_option linter.unusedVariables false
set_option linter.unusedSimpArgs false
set_option linter.unusedSectionVars false
set_option linter.constructorNameAsVariable false
namespace Go.Proofs.YtjgnafhbeekebaaGreat.L1
open Go.RowKit
open Go.Proofs.YtjgnafhbeekebaaGreat

attribute [local go_sem] gw_cell gw_frozen gw_size

theorem over_any (a : Int) (v : Fr) (w : World) (h0 : 0 ≤ a) (h1 : a ≤ 1099511627776) (hd : 1 ≤ v.d) (hn : v.d ≤ v.n) (hb : v.n < 9223372036854775808) :
    Calls Tryz.prog 59 #[.int .i64 a, .agg #[.int .i64 v.n, .int .i64 v.d]] w fun e w' =>
      e = .returned (.tuple #[.int .i64 (volF a v).flr, .bool (decide ((volF a v).n % (volF a v).d = 0))]) ∧ Below w.heap.size w w' := by
  obtain ⟨n, d⟩ := v
  simp only at hd hn hb
  obtain ⟨A, rfl⟩ := Int.eq_ofNat_of_zero_le h0
  obtain ⟨N, rfl⟩ := Int.eq_ofNat_of_zero_le (show 0 ≤ n by omega)
  obtain ⟨D, rfl⟩ := Int.eq_ofNat_of_zero_le (show 0 ≤ d by omega)
  have h := over_nat A N D w (by omega) (by omega) (by omega) (by omega)
  have e0 : (A : Int) * 1000000 * (D : Int) = ((A * 1000000 * D : Nat) : Int) := by rw [Int.natCast_mul, Int.natCast_mul]; rfl
  have e1 : (volF (A : Int) ⟨(N : Int), (D : Int)⟩).flr = ((A * 1000000 * D / N : Nat) : Int) := by
    show (A : Int) * 1000000 * (D : Int) / (N : Int) = _
    rw [e0, ← Int.natCast_ediv]
  have e2 : decide ((volF (A : Int) ⟨(N : Int), (D : Int)⟩).n % (volF (A : Int) ⟨(N : Int), (D : Int)⟩).d = 0) = decide (A * 1000000 * D % N = 0) := by
    show decide ((A : Int) * 1000000 * (D : Int) % (N : Int) = 0) = _
    rw [e0, ← Int.natCast_emod]
    exact decide_eq_decide.2 (by omega)
  rw [e1, e2]; exact h

theorem cei_flr (v : Fr) (h : 1 ≤ v.d) : v.cei = if v.n % v.d = 0 then v.flr else v.flr + 1 := by
  unfold Fr.cei Fr.flr upI
  have e := Int.emod_add_mul_ediv v.n v.d
  have m1 := Int.emod_nonneg v.n (show v.d ≠ 0 by omega)
  have m2 := Int.emod_lt_of_pos v.n (show 0 < v.d by omega)
  generalize v.n / v.d = q at *
  generalize v.n % v.d = r at *
  rw [show v.n + v.d - 1 = r + v.d - 1 + v.d * q by omega, Int.add_mul_ediv_left _ _ (show v.d ≠ 0 by omega)]
  by_cases hr : r = 0
  · rw [if_pos hr, Int.ediv_eq_zero_of_lt (by omega) (by omega)]; omega
  · rw [if_neg hr, show r + v.d - 1 = r - 1 + v.d * 1 by omega, Int.add_mul_ediv_left _ _ (show v.d ≠ 0 by omega), Int.ediv_eq_zero_of_lt (by omega) (by omega)]; omega

def Tab.voE (t : Tab) (alo ahi slo shi tlo thi : Int) : Int := if t.okB = true ∧ spanB alo ahi 0 1099511627776 = true then (if t.fitS slo shi = true ∧ t.fitT tlo thi = true then (if t.tb.volHi ahi slo shi tlo thi ≤ 1099511627776 then 0 else 11) else 2) else 1
def Tab.voLo (t : Tab) (alo ahi slo shi tlo thi : Int) : Int := if t.voE alo ahi slo shi tlo thi = 0 then t.tb.volLo alo slo shi tlo thi else 0
def Tab.voHi (t : Tab) (alo ahi slo shi tlo thi : Int) : Int := if t.voE alo ahi slo shi tlo thi = 0 then t.tb.volHi ahi slo shi tlo thi else 0
section
variable {t : Tab} {alo ahi slo shi tlo thi : Int}
theorem Tab.voE_bad (h : t.okB = false) : t.voE alo ahi slo shi tlo thi = 1 := by unfold Tab.voE; rw [if_neg (fun x => by rw [h] at x; cases x.1)]
theorem Tab.voE_arg (h : spanB alo ahi 0 1099511627776 = false) : t.voE alo ahi slo shi tlo thi = 1 := by unfold Tab.voE; rw [if_neg (fun x => by rw [h] at x; cases x.2)]
theorem Tab.voE_far (h : t.okB = true) (hs : spanB alo ahi 0 1099511627776 = true) (h2 : ¬ (t.fitS slo shi = true ∧ t.fitT tlo thi = true)) : t.voE alo ahi slo shi tlo thi = 2 := by unfold Tab.voE; rw [if_pos ⟨h, hs⟩, if_neg h2]
theorem Tab.voE_ok (h : t.okB = true) (hs : spanB alo ahi 0 1099511627776 = true) (h2 : t.fitS slo shi = true) (h3 : t.fitT tlo thi = true) : t.voE alo ahi slo shi tlo thi = if t.tb.volHi ahi slo shi tlo thi ≤ 1099511627776 then 0 else 11 := by unfold Tab.voE; rw [if_pos ⟨h, hs⟩, if_pos ⟨h2, h3⟩]
theorem Tab.vo_zero (h : ¬ t.voE alo ahi slo shi tlo thi = 0) : t.voLo alo ahi slo shi tlo thi = 0 ∧ t.voHi alo ahi slo shi tlo thi = 0 := ⟨if_neg h, if_neg h⟩
end

set_option maxRecDepth 100000 in
set_option maxHeartbeats 4000000 in
theorem Volume_any (t : Tab) (alo ahi slo shi tlo thi : Int) (w : World) (hI : t.In w) (hf : t.Fits) :
    Calls Tryz.prog 34 #[t.val, .agg #[.int .i64 alo, .int .i64 ahi], .agg #[.int .i64 slo, .int .i64 shi], .agg #[.int .i64 tlo, .int .i64 thi]] w fun e w' =>
      e = .returned (.tuple #[.agg #[.int .i64 (t.voLo alo ahi slo shi tlo thi), .int .i64 (t.voHi alo ahi slo shi tlo thi)], .int .i64 (t.voE alo ahi slo shi tlo thi)]) ∧ Below w.heap.size w w' := by
  obtain ⟨W1, hW1⟩ : ∃ W1, ((((w.alloc (.cells #[.slice t.aT t.nT t.cT, .slice t.aS t.nS t.cS, .slice t.H.a t.H.n t.H.c, .slice t.R.a t.R.n t.R.c] 25)).alloc (.cells #[.int .i64 alo, .int .i64 ahi] 27)).alloc (.cells #[.int .i64 slo, .int .i64 shi] 27)).alloc (.cells #[.int .i64 tlo, .int .i64 thi] 27)).alloc (.cells #[.int .i64 0, .int .i64 0] 27) = W1 := ⟨_, rfl⟩
  have hBc : Below w.heap.size w W1 := by rw [← hW1]; exact ((((below_alloc _ _).alloc (by simp) _).alloc (by simp <;> omega) _).alloc (by simp <;> omega) _).alloc (by simp <;> omega) _
  have zc0 : W1.heap[w.heap.size]? = some (.cells #[.slice t.aT t.nT t.cT, .slice t.aS t.nS t.cS, .slice t.H.a t.H.n t.H.c, .slice t.R.a t.R.n t.R.c] 25 (0, 0)) := by rw [← hW1]; exact alloc_keep (alloc_keep (alloc_keep (alloc_keep (alloc_at rfl))))
  have zc1 : W1.heap[w.heap.size + 1]? = some (.cells #[.int .i64 alo, .int .i64 ahi] 27 (0, 0)) := by rw [← hW1]; exact alloc_keep (alloc_keep (alloc_keep (alloc_at (by simp))))
  have zc2 : W1.heap[w.heap.size + 1 + 1]? = some (.cells #[.int .i64 slo, .int .i64 shi] 27 (0, 0)) := by rw [← hW1]; exact alloc_keep (alloc_keep (alloc_at (by simp <;> omega)))
  have zc3 : W1.heap[w.heap.size + 1 + 1 + 1]? = some (.cells #[.int .i64 tlo, .int .i64 thi] 27 (0, 0)) := by rw [← hW1]; exact alloc_keep (alloc_at (by simp <;> omega))
  have zc4 : W1.heap[w.heap.size + 1 + 1 + 1 + 1]? = some (.cells #[.int .i64 0, .int .i64 0] 27 (0, 0)) := by rw [← hW1]; exact alloc_at (by simp <;> omega)
  have c00 : W1.cell? ⟨w.heap.size, 0, none⟩ = some (.slice t.aT t.nT t.cT) := cell_of_block zc0 0 (by simp)
  have c01 : W1.cell? ⟨w.heap.size, 1, none⟩ = some (.slice t.aS t.nS t.cS) := cell_of_block zc0 1 (by simp)
  have c02 : W1.cell? ⟨w.heap.size, 2, none⟩ = some (.slice t.H.a t.H.n t.H.c) := cell_of_block zc0 2 (by simp)
  have c03 : W1.cell? ⟨w.heap.size, 3, none⟩ = some (.slice t.R.a t.R.n t.R.c) := cell_of_block zc0 3 (by simp)
  have c10 : W1.cell? ⟨w.heap.size + 1, 0, none⟩ = some (.int .i64 alo) := cell_of_block zc1 0 (by simp)
  have c11 : W1.cell? ⟨w.heap.size + 1, 1, none⟩ = some (.int .i64 ahi) := cell_of_block zc1 1 (by simp)
  have c20 : W1.cell? ⟨w.heap.size + 1 + 1, 0, none⟩ = some (.int .i64 slo) := cell_of_block zc2 0 (by simp)
  have c21 : W1.cell? ⟨w.heap.size + 1 + 1, 1, none⟩ = some (.int .i64 shi) := cell_of_block zc2 1 (by simp)
  have c30 : W1.cell? ⟨w.heap.size + 1 + 1 + 1, 0, none⟩ = some (.int .i64 tlo) := cell_of_block zc3 0 (by simp)
  have c31 : W1.cell? ⟨w.heap.size + 1 + 1 + 1, 1, none⟩ = some (.int .i64 thi) := cell_of_block zc3 1 (by simp)
  have c40 : W1.cell? ⟨w.heap.size + 1 + 1 + 1 + 1, 0, none⟩ = some (.int .i64 0) := cell_of_block zc4 0 (by simp)
  have c41 : W1.cell? ⟨w.heap.size + 1 + 1 + 1 + 1, 1, none⟩ = some (.int .i64 0) := cell_of_block zc4 1 (by simp)
  have lc0 := (Array.getElem?_eq_some_iff.1 zc0).1
  have lc1 := (Array.getElem?_eq_some_iff.1 zc1).1
  have lc2 := (Array.getElem?_eq_some_iff.1 zc2).1
  have lc3 := (Array.getElem?_eq_some_iff.1 zc3).1
  have lc4 := (Array.getElem?_eq_some_iff.1 zc4).1
  have fc40 := frozen_of_block zc4 0
  have fc41 := frozen_of_block zc4 1
  have Zc0 := Lib.hid zc0
  have Zc1 := Lib.hid zc1
  have Zc2 := Lib.hid zc2
  have Zc3 := Lib.hid zc3
  have Zc4 := Lib.hid zc4
  clear zc0 zc1 zc2 zc3 zc4
  have HBc := Lib.hid hBc; clear hBc
  have HWc := Lib.hid hW1; clear hW1
  have I1 := hI.below HBc.out
  have CK := Check_any t W1 I1 hf
  clear hI
  cases h1 : t.okB with
  | false =>
    have e0 := Tab.voE_bad (t := t) (alo := alo) (ahi := ahi) (slo := slo) (shi := shi) (tlo := tlo) (thi := thi) h1
    obtain ⟨e1, e2⟩ := Tab.vo_zero (t := t) (alo := alo) (ahi := ahi) (slo := slo) (shi := shi) (tlo := tlo) (thi := thi) (by rw [e0]; decide)
    rw [e0, e1, e2]
    rw [h1] at CK
    have HCK := Lib.hid CK
    clear h1
    clear e0 e1 e2 CK I1
    unfold Tab.val at HCK ⊢
    go_enter Tryz.func34, Tryz.ntmps34
    go_upto_region 1 with (fail)
    rw [HWc.out]
    go_wp2_with fail
    refine (Calls.grown HCK.out).mono ?_
    rintro e w1 ⟨rfl, z1, rfl⟩
    go_wp2_with fail
    refine bodyPost_ret (v := .tuple #[.agg #[.int .i64 0, .int .i64 0], .int .i64 1]) (by simp [results, Tryz.results34, go_sem, *]) rfl ⟨rfl, ?_⟩
    exact ((HBc.out.gw z1).setCell (by simp <;> omega) _).setCell (by simp <;> omega) _
  | true =>
    have g := Tab.good h1
    have t2 : 2 ≤ t.nT := g.ok.t2
    have t32 : t.nT ≤ 32 := g.ok.t32
    have s2 : 2 ≤ t.nS := g.ok.s2
    have s32 : t.nS ≤ 32 := g.ok.s32
    rw [h1] at CK
    have HCK := Lib.hid CK
    cases h0 : spanB alo ahi 0 1099511627776 with
    | false =>
      have e0 := Tab.voE_arg (t := t) (alo := alo) (ahi := ahi) (slo := slo) (shi := shi) (tlo := tlo) (thi := thi) h0
      obtain ⟨e1, e2⟩ := Tab.vo_zero (t := t) (alo := alo) (ahi := ahi) (slo := slo) (shi := shi) (tlo := tlo) (thi := thi) (by rw [e0]; decide)
      rw [e0, e1, e2]
      have IS := Lib.hid (fun z => isSpan_b (b := false) alo ahi 0 1099511627776 (gw W1 z) h0)
      clear e0 e1 e2 CK I1 h0 h1 g t2 t32 s2 s32
      unfold Tab.val at HCK ⊢
      go_enter Tryz.func34, Tryz.ntmps34
      go_upto_region 1 with (fail)
      rw [HWc.out]
      go_wp2_with fail
      refine (Calls.grown HCK.out).mono ?_
      rintro e w1 ⟨rfl, z1, rfl⟩
      go_wp2_with fail
      refine (Calls.gw_of (IS.out z1)).mono ?_
      rintro e w1 ⟨rfl, z2, rfl⟩
      go_wp2_with fail
      refine bodyPost_ret (v := .tuple #[.agg #[.int .i64 0, .int .i64 0], .int .i64 1]) (by simp [results, Tryz.results34, go_sem, *]) rfl ⟨rfl, ?_⟩
      exact ((HBc.out.gw z2).setCell (by simp <;> omega) _).setCell (by simp <;> omega) _
    | true =>
      have IS := Lib.hid (fun z => isSpan_b (b := true) alo ahi 0 1099511627776 (gw W1 z) h0)
      cases h2 : t.fitS slo shi with
      | false =>
        have e0 := Tab.voE_far (t := t) (alo := alo) (ahi := ahi) (slo := slo) (shi := shi) (tlo := tlo) (thi := thi) h1 h0 (fun h => by rw [h2] at h; cases h.1)
        obtain ⟨e1, e2⟩ := Tab.vo_zero (t := t) (alo := alo) (ahi := ahi) (slo := slo) (shi := shi) (tlo := tlo) (thi := thi) (by rw [e0]; decide)
        rw [e0, e1, e2]
        have ST := Lib.hid (fun z => strong_b (b := false) t w.heap.size slo shi (gw W1 z) (I1.below (below_gw W1 z)) s2 s32 (below_cell (below_gw W1 z) c01) h2)
        clear e0 e1 e2 CK I1 h0 h1 h2 g t2 t32 s2 s32
        unfold Tab.val at HCK ⊢
        go_enter Tryz.func34, Tryz.ntmps34
        go_upto_region 1 with (fail)
        rw [HWc.out]
        go_wp2_with fail
        refine (Calls.grown HCK.out).mono ?_
        rintro e w1 ⟨rfl, z1, rfl⟩
        go_wp2_with fail
        refine (Calls.gw_of (IS.out z1)).mono ?_
        rintro e w1 ⟨rfl, z2, rfl⟩
        go_wp2_with fail
        refine (Calls.gw_of (ST.out z2)).mono ?_
        rintro e w1 ⟨rfl, z3, rfl⟩
        go_wp2_with fail
        refine bodyPost_ret (v := .tuple #[.agg #[.int .i64 0, .int .i64 0], .int .i64 2]) (by simp [results, Tryz.results34, go_sem, *]) rfl ⟨rfl, ?_⟩
        exact ((HBc.out.gw z3).setCell (by simp <;> omega) _).setCell (by simp <;> omega) _
      | true =>
        have ST := Lib.hid (fun z => strong_b (b := true) t w.heap.size slo shi (gw W1 z) (I1.below (below_gw W1 z)) s2 s32 (below_cell (below_gw W1 z) c01) h2)
        cases h3 : t.fitT tlo thi with
        | false =>
          have e0 := Tab.voE_far (t := t) (alo := alo) (ahi := ahi) (slo := slo) (shi := shi) (tlo := tlo) (thi := thi) h1 h0 (fun h => by rw [h3] at h; cases h.2)
          obtain ⟨e1, e2⟩ := Tab.vo_zero (t := t) (alo := alo) (ahi := ahi) (slo := slo) (shi := shi) (tlo := tlo) (thi := thi) (by rw [e0]; decide)
          rw [e0, e1, e2]
          have WA := Lib.hid (fun z => warm_b (b := false) t w.heap.size tlo thi (gw W1 z) (I1.below (below_gw W1 z)) t2 t32 (below_cell (below_gw W1 z) c00) h3)
          clear e0 e1 e2 CK I1 h0 h1 h2 h3 g t2 t32 s2 s32
          unfold Tab.val at HCK ⊢
          go_enter Tryz.func34, Tryz.ntmps34
          go_upto_region 1 with (fail)
          rw [HWc.out]
          go_wp2_with fail
          refine (Calls.grown HCK.out).mono ?_
          rintro e w1 ⟨rfl, z1, rfl⟩
          go_wp2_with fail
          refine (Calls.gw_of (IS.out z1)).mono ?_
          rintro e w1 ⟨rfl, z2, rfl⟩
          go_wp2_with fail
          refine (Calls.gw_of (ST.out z2)).mono ?_
          rintro e w1 ⟨rfl, z3, rfl⟩
          go_wp2_with fail
          refine (Calls.gw_of (WA.out z3)).mono ?_
          rintro e w1 ⟨rfl, z4, rfl⟩
          go_wp2_with fail
          refine bodyPost_ret (v := .tuple #[.agg #[.int .i64 0, .int .i64 0], .int .i64 2]) (by simp [results, Tryz.results34, go_sem, *]) rfl ⟨rfl, ?_⟩
          exact ((HBc.out.gw z4).setCell (by simp <;> omega) _).setCell (by simp <;> omega) _
        | true =>
          have e0 := Tab.voE_ok (t := t) (alo := alo) (ahi := ahi) (slo := slo) (shi := shi) (tlo := tlo) (thi := thi) h1 h0 h2 h3
          have WA := Lib.hid (fun z => warm_b (b := true) t w.heap.size tlo thi (gw W1 z) (I1.below (below_gw W1 z)) t2 t32 (below_cell (below_gw W1 z) c00) h3)
          have rR := g.rowsR I1
          have ft := Tab.fitT_t h3
          have fs := Tab.fitS_t h2
          have EN := Lib.hid (fun z => ends_any t g t.R w.heap.size slo shi tlo thi (gw W1 z) (I1.below (below_gw W1 z)) (rR.below (below_gw W1 z)) ft fs (below_cell (below_gw W1 z) c00) (below_cell (below_gw W1 z) c01))
          have FL := low_fit g rR ft fs
          have FH := high_fit g rR ft fs
          have d1 : t.tb.lowV slo shi tlo thi = t.low t.R slo shi tlo thi := rfl
          have d2 : t.tb.highV slo shi tlo thi = t.high t.R slo shi tlo thi := rfl
          have RL := g.ok.lowV_range ft fs
          have RH := g.ok.highV_range ft fs
          have v1 : t.tb.volLo alo slo shi tlo thi = (volF alo (t.high t.R slo shi tlo thi)).flr := rfl
          have v2 : t.tb.volHi ahi slo shi tlo thi = (volF ahi (t.low t.R slo shi tlo thi)).cei := rfl
          have sb : 0 ≤ alo ∧ alo ≤ ahi ∧ ahi ≤ 1099511627776 := by simpa [spanB] using h0
          have V1 := Lib.hid (show t.voLo alo ahi slo shi tlo thi = if t.voE alo ahi slo shi tlo thi = 0 then t.tb.volLo alo slo shi tlo thi else 0 from rfl)
          have V2 := Lib.hid (show t.voHi alo ahi slo shi tlo thi = if t.voE alo ahi slo shi tlo thi = 0 then t.tb.volHi ahi slo shi tlo thi else 0 from rfl)
          rw [V1.out, V2.out, e0]
          rw [v1, v2]
          rw [d1] at RL
          rw [d2] at RH
          clear h0 h1 h2 h3 e0 CK I1 rR g t2 t32 s2 s32 d1 d2 v1 v2 V1 V2 ft fs
          generalize t.low t.R slo shi tlo thi = lo at *
          generalize t.high t.R slo shi tlo thi = hi at *
          obtain ⟨l1, l2, l3, l4⟩ := RL
          obtain ⟨u1, u2, u3, u4⟩ := RH
          unfold leF ofI at l1 l2 u1 u2
          simp only [Int.mul_one] at l1 l2 u1 u2
          have lb := FL.n2
          have ub := FH.n2
          have OL := Lib.hid (fun w => over_any ahi lo w (by omega) sb.2.2 l3 (by omega) (by omega))
          have OH := Lib.hid (fun w => over_any alo hi w sb.1 (by omega) u3 (by omega) (by omega))
          have q0 : 0 ≤ (volF ahi lo).flr ∧ (volF ahi lo).flr ≤ 2000000000000000000 := by
            have m := Int.mul_nonneg (show 0 ≤ ahi * 1000000 by omega) (show 0 ≤ lo.d by omega)
            refine ⟨Int.ediv_nonneg m (by show 0 ≤ lo.n; omega), Int.le_trans (Int.ediv_le_ediv (by show 0 < lo.n; omega) (show (volF ahi lo).n ≤ ahi * 1000000 * lo.n from Int.mul_le_mul_of_nonneg_left (by omega) (by omega))) ?_⟩
            show ahi * 1000000 * lo.n / lo.n ≤ _
            rw [Int.mul_ediv_cancel _ (by omega)]; omega
          have CE : (volF ahi lo).cei = if (volF ahi lo).n % (volF ahi lo).d = 0 then (volF ahi lo).flr else (volF ahi lo).flr + 1 := cei_flr _ (show 1 ≤ lo.n from l4)
          rw [CE]
          clear CE l1 l2 l3 l4 u1 u2 u3 u4 lb ub FL FH sb
          generalize (volF ahi lo).flr = Q at *
          generalize (volF alo hi).flr = P at *
          generalize decide ((volF alo hi).n % (volF alo hi).d = 0) = ex at *
          unfold Fr.val at EN
          unfold Rows.val at EN
          by_cases hx : (volF ahi lo).n % (volF ahi lo).d = 0
          · rw [if_pos hx]
            have hd : decide ((volF ahi lo).n % (volF ahi lo).d = 0) = true := decide_eq_true hx
            simp only [hd] at OL
            clear hd
            by_cases hm : Q ≤ 1099511627776
            · rw [if_pos hm, if_pos rfl, if_pos rfl]
              clear hx
              unfold Tab.val at HCK ⊢
              go_enter Tryz.func34, Tryz.ntmps34
              go_upto_region 1 with (fail)
              rw [HWc.out]
              go_wp2_with fail
              refine (Calls.grown HCK.out).mono ?_
              rintro e w1 ⟨rfl, z1, rfl⟩
              go_wp2_with fail
              refine (Calls.gw_of (IS.out z1)).mono ?_
              rintro e w1 ⟨rfl, z2, rfl⟩
              go_wp2_with fail
              refine (Calls.gw_of (ST.out z2)).mono ?_
              rintro e w1 ⟨rfl, z3, rfl⟩
              go_wp2_with fail
              refine (Calls.gw_of (WA.out z3)).mono ?_
              rintro e w1 ⟨rfl, z4, rfl⟩
              go_wp2_with fail
              refine (Calls.gw_of (EN.out z4)).mono ?_
              rintro e w1 ⟨rfl, z5, rfl⟩
              go_upto_region 6 with (fail)
              obtain ⟨W2, hW2⟩ : ∃ W2, (((gw W1 z5)).alloc (.cells #[.int .i64 lo.n, .int .i64 lo.d] 95)).alloc (.cells #[.int .i64 hi.n, .int .i64 hi.d] 95) = W2 := ⟨_, rfl⟩
              have hbW2 : Below W1.heap.size W1 W2 := by rw [← hW2]; exact ((below_gw W1 z5).alloc (by simp [gw_size]) _).alloc (by simp [gw_size] <;> omega) _
              have ZrW2 := Lib.hid ((hbW2.block _ (Array.getElem?_eq_some_iff.1 Zc4.out).1).trans Zc4.out)
              have ZmlW2 := Lib.hid ((hbW2.block _ (Array.getElem?_eq_some_iff.1 Zc1.out).1).trans Zc1.out)
              have zloW2 : W2.heap[W1.heap.size + z5.bs.size]? = some (.cells #[.int .i64 lo.n, .int .i64 lo.d] 95 (0, 0)) := by rw [← hW2]; exact alloc_keep (alloc_at (by simp [gw_size]))
              have ZloW2 := Lib.hid zloW2; clear zloW2
              have zhiW2 : W2.heap[W1.heap.size + z5.bs.size + 1]? = some (.cells #[.int .i64 hi.n, .int .i64 hi.d] 95 (0, 0)) := by rw [← hW2]; exact alloc_at (by simp [gw_size] <;> omega)
              have ZhiW2 := Lib.hid zhiW2; clear zhiW2
              have HBW2 := Lib.hid (thru hbW2 HBc.out)
              have SBW2 := Lib.hid hbW2; clear hbW2
              have HWW2 := Lib.hid hW2; clear hW2
              rw [HWW2.out]
              have er0W2 : W2.cell? ⟨w.heap.size + 1 + 1 + 1 + 1, 0, none⟩ = some (.int .i64 0) := cell_of_block ZrW2.out 0 (by simp)
              have fr0W2 := frozen_of_block ZrW2.out 0
              have er1W2 : W2.cell? ⟨w.heap.size + 1 + 1 + 1 + 1, 1, none⟩ = some (.int .i64 0) := cell_of_block ZrW2.out 1 (by simp)
              have fr1W2 := frozen_of_block ZrW2.out 1
              have lrW2 := (Array.getElem?_eq_some_iff.1 ZrW2.out).1
              have eml0W2 : W2.cell? ⟨w.heap.size + 1, 0, none⟩ = some (.int .i64 alo) := cell_of_block ZmlW2.out 0 (by simp)
              have eml1W2 : W2.cell? ⟨w.heap.size + 1, 1, none⟩ = some (.int .i64 ahi) := cell_of_block ZmlW2.out 1 (by simp)
              have lmlW2 := (Array.getElem?_eq_some_iff.1 ZmlW2.out).1
              have elo0W2 : W2.cell? ⟨W1.heap.size + z5.bs.size, 0, none⟩ = some (.int .i64 lo.n) := cell_of_block ZloW2.out 0 (by simp)
              have elo1W2 : W2.cell? ⟨W1.heap.size + z5.bs.size, 1, none⟩ = some (.int .i64 lo.d) := cell_of_block ZloW2.out 1 (by simp)
              have lloW2 := (Array.getElem?_eq_some_iff.1 ZloW2.out).1
              have ehi0W2 : W2.cell? ⟨W1.heap.size + z5.bs.size + 1, 0, none⟩ = some (.int .i64 hi.n) := cell_of_block ZhiW2.out 0 (by simp)
              have ehi1W2 : W2.cell? ⟨W1.heap.size + z5.bs.size + 1, 1, none⟩ = some (.int .i64 hi.d) := cell_of_block ZhiW2.out 1 (by simp)
              have lhiW2 := (Array.getElem?_eq_some_iff.1 ZhiW2.out).1
              go_wp2_with fail
              refine (Calls.grown (OH.out _)).mono ?_
              rintro e w1 ⟨rfl, z6, rfl⟩
              go_wp2_with fail
              refine (Calls.gw_of (OL.out _)).mono ?_
              rintro e w1 ⟨rfl, z7, rfl⟩
              go_wp2_with fail
              refine bodyPost_ret (v := .tuple #[.agg #[.int .i64 P, .int .i64 (Q)], .int .i64 0]) (by simp [results, Tryz.results34, go_sem, *]) rfl ⟨rfl, ?_⟩
              exact ((HBW2.out.gw z7).setCell (by simp <;> omega) _).setCell (by simp <;> omega) _
            · rw [if_neg hm, if_neg (by decide), if_neg (by decide)]
              clear hx
              unfold Tab.val at HCK ⊢
              go_enter Tryz.func34, Tryz.ntmps34
              go_upto_region 1 with (fail)
              rw [HWc.out]
              go_wp2_with fail
              refine (Calls.grown HCK.out).mono ?_
              rintro e w1 ⟨rfl, z1, rfl⟩
              go_wp2_with fail
              refine (Calls.gw_of (IS.out z1)).mono ?_
              rintro e w1 ⟨rfl, z2, rfl⟩
              go_wp2_with fail
              refine (Calls.gw_of (ST.out z2)).mono ?_
              rintro e w1 ⟨rfl, z3, rfl⟩
              go_wp2_with fail
              refine (Calls.gw_of (WA.out z3)).mono ?_
              rintro e w1 ⟨rfl, z4, rfl⟩
              go_wp2_with fail
              refine (Calls.gw_of (EN.out z4)).mono ?_
              rintro e w1 ⟨rfl, z5, rfl⟩
              go_upto_region 6 with (fail)
              obtain ⟨W2, hW2⟩ : ∃ W2, (((gw W1 z5)).alloc (.cells #[.int .i64 lo.n, .int .i64 lo.d] 95)).alloc (.cells #[.int .i64 hi.n, .int .i64 hi.d] 95) = W2 := ⟨_, rfl⟩
              have hbW2 : Below W1.heap.size W1 W2 := by rw [← hW2]; exact ((below_gw W1 z5).alloc (by simp [gw_size]) _).alloc (by simp [gw_size] <;> omega) _
              have ZrW2 := Lib.hid ((hbW2.block _ (Array.getElem?_eq_some_iff.1 Zc4.out).1).trans Zc4.out)
              have ZmlW2 := Lib.hid ((hbW2.block _ (Array.getElem?_eq_some_iff.1 Zc1.out).1).trans Zc1.out)
              have zloW2 : W2.heap[W1.heap.size + z5.bs.size]? = some (.cells #[.int .i64 lo.n, .int .i64 lo.d] 95 (0, 0)) := by rw [← hW2]; exact alloc_keep (alloc_at (by simp [gw_size]))
              have ZloW2 := Lib.hid zloW2; clear zloW2
              have zhiW2 : W2.heap[W1.heap.size + z5.bs.size + 1]? = some (.cells #[.int .i64 hi.n, .int .i64 hi.d] 95 (0, 0)) := by rw [← hW2]; exact alloc_at (by simp [gw_size] <;> omega)
              have ZhiW2 := Lib.hid zhiW2; clear zhiW2
              have HBW2 := Lib.hid (thru hbW2 HBc.out)
              have SBW2 := Lib.hid hbW2; clear hbW2
              have HWW2 := Lib.hid hW2; clear hW2
              rw [HWW2.out]
              have er0W2 : W2.cell? ⟨w.heap.size + 1 + 1 + 1 + 1, 0, none⟩ = some (.int .i64 0) := cell_of_block ZrW2.out 0 (by simp)
              have fr0W2 := frozen_of_block ZrW2.out 0
              have er1W2 : W2.cell? ⟨w.heap.size + 1 + 1 + 1 + 1, 1, none⟩ = some (.int .i64 0) := cell_of_block ZrW2.out 1 (by simp)
              have fr1W2 := frozen_of_block ZrW2.out 1
              have lrW2 := (Array.getElem?_eq_some_iff.1 ZrW2.out).1
              have eml0W2 : W2.cell? ⟨w.heap.size + 1, 0, none⟩ = some (.int .i64 alo) := cell_of_block ZmlW2.out 0 (by simp)
              have eml1W2 : W2.cell? ⟨w.heap.size + 1, 1, none⟩ = some (.int .i64 ahi) := cell_of_block ZmlW2.out 1 (by simp)
              have lmlW2 := (Array.getElem?_eq_some_iff.1 ZmlW2.out).1
              have elo0W2 : W2.cell? ⟨W1.heap.size + z5.bs.size, 0, none⟩ = some (.int .i64 lo.n) := cell_of_block ZloW2.out 0 (by simp)
              have elo1W2 : W2.cell? ⟨W1.heap.size + z5.bs.size, 1, none⟩ = some (.int .i64 lo.d) := cell_of_block ZloW2.out 1 (by simp)
              have lloW2 := (Array.getElem?_eq_some_iff.1 ZloW2.out).1
              have ehi0W2 : W2.cell? ⟨W1.heap.size + z5.bs.size + 1, 0, none⟩ = some (.int .i64 hi.n) := cell_of_block ZhiW2.out 0 (by simp)
              have ehi1W2 : W2.cell? ⟨W1.heap.size + z5.bs.size + 1, 1, none⟩ = some (.int .i64 hi.d) := cell_of_block ZhiW2.out 1 (by simp)
              have lhiW2 := (Array.getElem?_eq_some_iff.1 ZhiW2.out).1
              go_wp2_with fail
              refine (Calls.grown (OH.out _)).mono ?_
              rintro e w1 ⟨rfl, z6, rfl⟩
              go_wp2_with fail
              refine (Calls.gw_of (OL.out _)).mono ?_
              rintro e w1 ⟨rfl, z7, rfl⟩
              go_wp2_with fail
              refine bodyPost_ret (v := .tuple #[.agg #[.int .i64 0, .int .i64 (0)], .int .i64 11]) (by simp [results, Tryz.results34, go_sem, *]) rfl ⟨rfl, ?_⟩
              exact ((HBW2.out.gw z7).setCell (by simp <;> omega) _).setCell (by simp <;> omega) _
          · rw [if_neg hx]
            have hd : decide ((volF ahi lo).n % (volF ahi lo).d = 0) = false := decide_eq_false hx
            simp only [hd] at OL
            clear hd
            by_cases hm : Q + 1 ≤ 1099511627776
            · rw [if_pos hm, if_pos rfl, if_pos rfl]
              clear hx
              unfold Tab.val at HCK ⊢
              go_enter Tryz.func34, Tryz.ntmps34
              go_upto_region 1 with (fail)
              rw [HWc.out]
              go_wp2_with fail
              refine (Calls.grown HCK.out).mono ?_
              rintro e w1 ⟨rfl, z1, rfl⟩
              go_wp2_with fail
              refine (Calls.gw_of (IS.out z1)).mono ?_
              rintro e w1 ⟨rfl, z2, rfl⟩
              go_wp2_with fail
              refine (Calls.gw_of (ST.out z2)).mono ?_
              rintro e w1 ⟨rfl, z3, rfl⟩
              go_wp2_with fail
              refine (Calls.gw_of (WA.out z3)).mono ?_
              rintro e w1 ⟨rfl, z4, rfl⟩
              go_wp2_with fail
              refine (Calls.gw_of (EN.out z4)).mono ?_
              rintro e w1 ⟨rfl, z5, rfl⟩
              go_upto_region 6 with (fail)
              obtain ⟨W2, hW2⟩ : ∃ W2, (((gw W1 z5)).alloc (.cells #[.int .i64 lo.n, .int .i64 lo.d] 95)).alloc (.cells #[.int .i64 hi.n, .int .i64 hi.d] 95) = W2 := ⟨_, rfl⟩
              have hbW2 : Below W1.heap.size W1 W2 := by rw [← hW2]; exact ((below_gw W1 z5).alloc (by simp [gw_size]) _).alloc (by simp [gw_size] <;> omega) _
              have ZrW2 := Lib.hid ((hbW2.block _ (Array.getElem?_eq_some_iff.1 Zc4.out).1).trans Zc4.out)
              have ZmlW2 := Lib.hid ((hbW2.block _ (Array.getElem?_eq_some_iff.1 Zc1.out).1).trans Zc1.out)
              have zloW2 : W2.heap[W1.heap.size + z5.bs.size]? = some (.cells #[.int .i64 lo.n, .int .i64 lo.d] 95 (0, 0)) := by rw [← hW2]; exact alloc_keep (alloc_at (by simp [gw_size]))
              have ZloW2 := Lib.hid zloW2; clear zloW2
              have zhiW2 : W2.heap[W1.heap.size + z5.bs.size + 1]? = some (.cells #[.int .i64 hi.n, .int .i64 hi.d] 95 (0, 0)) := by rw [← hW2]; exact alloc_at (by simp [gw_size] <;> omega)
              have ZhiW2 := Lib.hid zhiW2; clear zhiW2
              have HBW2 := Lib.hid (thru hbW2 HBc.out)
              have SBW2 := Lib.hid hbW2; clear hbW2
              have HWW2 := Lib.hid hW2; clear hW2
              rw [HWW2.out]
              have er0W2 : W2.cell? ⟨w.heap.size + 1 + 1 + 1 + 1, 0, none⟩ = some (.int .i64 0) := cell_of_block ZrW2.out 0 (by simp)
              have fr0W2 := frozen_of_block ZrW2.out 0
              have er1W2 : W2.cell? ⟨w.heap.size + 1 + 1 + 1 + 1, 1, none⟩ = some (.int .i64 0) := cell_of_block ZrW2.out 1 (by simp)
              have fr1W2 := frozen_of_block ZrW2.out 1
              have lrW2 := (Array.getElem?_eq_some_iff.1 ZrW2.out).1
              have eml0W2 : W2.cell? ⟨w.heap.size + 1, 0, none⟩ = some (.int .i64 alo) := cell_of_block ZmlW2.out 0 (by simp)
              have eml1W2 : W2.cell? ⟨w.heap.size + 1, 1, none⟩ = some (.int .i64 ahi) := cell_of_block ZmlW2.out 1 (by simp)
              have lmlW2 := (Array.getElem?_eq_some_iff.1 ZmlW2.out).1
              have elo0W2 : W2.cell? ⟨W1.heap.size + z5.bs.size, 0, none⟩ = some (.int .i64 lo.n) := cell_of_block ZloW2.out 0 (by simp)
              have elo1W2 : W2.cell? ⟨W1.heap.size + z5.bs.size, 1, none⟩ = some (.int .i64 lo.d) := cell_of_block ZloW2.out 1 (by simp)
              have lloW2 := (Array.getElem?_eq_some_iff.1 ZloW2.out).1
              have ehi0W2 : W2.cell? ⟨W1.heap.size + z5.bs.size + 1, 0, none⟩ = some (.int .i64 hi.n) := cell_of_block ZhiW2.out 0 (by simp)
              have ehi1W2 : W2.cell? ⟨W1.heap.size + z5.bs.size + 1, 1, none⟩ = some (.int .i64 hi.d) := cell_of_block ZhiW2.out 1 (by simp)
              have lhiW2 := (Array.getElem?_eq_some_iff.1 ZhiW2.out).1
              go_wp2_with fail
              refine (Calls.grown (OH.out _)).mono ?_
              rintro e w1 ⟨rfl, z6, rfl⟩
              go_wp2_with fail
              refine (Calls.gw_of (OL.out _)).mono ?_
              rintro e w1 ⟨rfl, z7, rfl⟩
              go_wp2_with fail
              refine bodyPost_ret (v := .tuple #[.agg #[.int .i64 P, .int .i64 (Q + 1)], .int .i64 0]) (by simp [results, Tryz.results34, go_sem, *]) rfl ⟨rfl, ?_⟩
              exact ((HBW2.out.gw z7).setCell (by simp <;> omega) _).setCell (by simp <;> omega) _
            · rw [if_neg hm, if_neg (by decide), if_neg (by decide)]
              clear hx
              unfold Tab.val at HCK ⊢
              go_enter Tryz.func34, Tryz.ntmps34
              go_upto_region 1 with (fail)
              rw [HWc.out]
              go_wp2_with fail
              refine (Calls.grown HCK.out).mono ?_
              rintro e w1 ⟨rfl, z1, rfl⟩
              go_wp2_with fail
              refine (Calls.gw_of (IS.out z1)).mono ?_
              rintro e w1 ⟨rfl, z2, rfl⟩
              go_wp2_with fail
              refine (Calls.gw_of (ST.out z2)).mono ?_
              rintro e w1 ⟨rfl, z3, rfl⟩
              go_wp2_with fail
              refine (Calls.gw_of (WA.out z3)).mono ?_
              rintro e w1 ⟨rfl, z4, rfl⟩
              go_wp2_with fail
              refine (Calls.gw_of (EN.out z4)).mono ?_
              rintro e w1 ⟨rfl, z5, rfl⟩
              go_upto_region 6 with (fail)
              obtain ⟨W2, hW2⟩ : ∃ W2, (((gw W1 z5)).alloc (.cells #[.int .i64 lo.n, .int .i64 lo.d] 95)).alloc (.cells #[.int .i64 hi.n, .int .i64 hi.d] 95) = W2 := ⟨_, rfl⟩
              have hbW2 : Below W1.heap.size W1 W2 := by rw [← hW2]; exact ((below_gw W1 z5).alloc (by simp [gw_size]) _).alloc (by simp [gw_size] <;> omega) _
              have ZrW2 := Lib.hid ((hbW2.block _ (Array.getElem?_eq_some_iff.1 Zc4.out).1).trans Zc4.out)
              have ZmlW2 := Lib.hid ((hbW2.block _ (Array.getElem?_eq_some_iff.1 Zc1.out).1).trans Zc1.out)
              have zloW2 : W2.heap[W1.heap.size + z5.bs.size]? = some (.cells #[.int .i64 lo.n, .int .i64 lo.d] 95 (0, 0)) := by rw [← hW2]; exact alloc_keep (alloc_at (by simp [gw_size]))
              have ZloW2 := Lib.hid zloW2; clear zloW2
              have zhiW2 : W2.heap[W1.heap.size + z5.bs.size + 1]? = some (.cells #[.int .i64 hi.n, .int .i64 hi.d] 95 (0, 0)) := by rw [← hW2]; exact alloc_at (by simp [gw_size] <;> omega)
              have ZhiW2 := Lib.hid zhiW2; clear zhiW2
              have HBW2 := Lib.hid (thru hbW2 HBc.out)
              have SBW2 := Lib.hid hbW2; clear hbW2
              have HWW2 := Lib.hid hW2; clear hW2
              rw [HWW2.out]
              have er0W2 : W2.cell? ⟨w.heap.size + 1 + 1 + 1 + 1, 0, none⟩ = some (.int .i64 0) := cell_of_block ZrW2.out 0 (by simp)
              have fr0W2 := frozen_of_block ZrW2.out 0
              have er1W2 : W2.cell? ⟨w.heap.size + 1 + 1 + 1 + 1, 1, none⟩ = some (.int .i64 0) := cell_of_block ZrW2.out 1 (by simp)
              have fr1W2 := frozen_of_block ZrW2.out 1
              have lrW2 := (Array.getElem?_eq_some_iff.1 ZrW2.out).1
              have eml0W2 : W2.cell? ⟨w.heap.size + 1, 0, none⟩ = some (.int .i64 alo) := cell_of_block ZmlW2.out 0 (by simp)
              have eml1W2 : W2.cell? ⟨w.heap.size + 1, 1, none⟩ = some (.int .i64 ahi) := cell_of_block ZmlW2.out 1 (by simp)
              have lmlW2 := (Array.getElem?_eq_some_iff.1 ZmlW2.out).1
              have elo0W2 : W2.cell? ⟨W1.heap.size + z5.bs.size, 0, none⟩ = some (.int .i64 lo.n) := cell_of_block ZloW2.out 0 (by simp)
              have elo1W2 : W2.cell? ⟨W1.heap.size + z5.bs.size, 1, none⟩ = some (.int .i64 lo.d) := cell_of_block ZloW2.out 1 (by simp)
              have lloW2 := (Array.getElem?_eq_some_iff.1 ZloW2.out).1
              have ehi0W2 : W2.cell? ⟨W1.heap.size + z5.bs.size + 1, 0, none⟩ = some (.int .i64 hi.n) := cell_of_block ZhiW2.out 0 (by simp)
              have ehi1W2 : W2.cell? ⟨W1.heap.size + z5.bs.size + 1, 1, none⟩ = some (.int .i64 hi.d) := cell_of_block ZhiW2.out 1 (by simp)
              have lhiW2 := (Array.getElem?_eq_some_iff.1 ZhiW2.out).1
              go_wp2_with fail
              refine (Calls.grown (OH.out _)).mono ?_
              rintro e w1 ⟨rfl, z6, rfl⟩
              go_wp2_with fail
              refine (Calls.gw_of (OL.out _)).mono ?_
              rintro e w1 ⟨rfl, z7, rfl⟩
              go_wp2_with fail
              refine bodyPost_ret (v := .tuple #[.agg #[.int .i64 0, .int .i64 (0)], .int .i64 11]) (by simp [results, Tryz.results34, go_sem, *]) rfl ⟨rfl, ?_⟩
              exact ((HBW2.out.gw z7).setCell (by simp <;> omega) _).setCell (by simp <;> omega) _
end Go.Proofs.YtjgnafhbeekebaaGreat.L1
