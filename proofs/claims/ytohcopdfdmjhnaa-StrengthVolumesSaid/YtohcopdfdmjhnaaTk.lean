/- Contract of the reference's Strength. No conditions beyond each theorem's own. -/
import Derived.Test.YtohcopdfdmjhnaaUt
import Derived.Test.YtohcopdfdmjhnaaTb
import Derived.Test.YtohcopdfdmjhnaaAb
set_option linter.unusedVariables false
set_option linter.unusedSimpArgs false
set_option linter.unusedSectionVars false
set_option linter.constructorNameAsVariable false
namespace Go.Proofs.Ytohcopdfdmjhnaa.L1
open Go.RowKit
open Go.Proofs.Ytohcopdfdmjhnaa

attribute [local go_sem] gw_cell gw_frozen gw_size
attribute [local go_sem ↓] run_minI

theorem run_maxK {Q : Program} (w : World) (ts : Array TypeId) (t : TypeId) (k k' : IntKind) (x y : Int) : (Builtin.max_ ts t #[.int k x, .int k' y]).run Q w = .ok (.int k (max x y)) w := by rw [run_maxZ, maxZ_eq]
attribute [local go_sem ↓] run_maxK
section
variable {t : Tab} {lo hi tlo thi s : Int}
theorem dec_fr (g : t.Good) (ft : t.tb.FitT tlo thi) (h0 : t.S 0 ≤ s) (h1 : s ≤ t.S (t.nS - 1)) : ltF (t.rhigh t.H s s tlo thi) ⟨clm lo, 1⟩ = decide (s < t.tb.from_ lo tlo thi) := by
  obtain ⟨_, cH, _⟩ := sees_bd g ft (s := s) ⟨h0, Int.le_refl _, h1⟩
  by_cases h : s < t.tb.from_ lo tlo thi
  · rw [decide_eq_true h]
    exact ltF_t.2 fun hh => g.ok.fr_below h0 h ((cH lo).1.1 hh)
  · rw [decide_eq_false h]
    refine ltF_f.2 ((cH lo).1.2 ?_)
    have l : t.tb.frN lo tlo thi < t.tb.cnt := Tb.cnt_lt.2 (by
      have e : t.tb.from_ lo tlo thi = t.tb.first + t.tb.frN lo tlo thi := rfl
      have f1 : t.tb.last = t.S (t.nS - 1) := rfl
      omega)
    have e0 : t.tb.first ≤ t.tb.from_ lo tlo thi := by unfold Tb.from_; omega
    exact leF_trans (by show (1 : Int) ≤ 1; omega) (g.ok.seeH_d _ _ _) (g.ok.seeH_d _ _ _) (g.ok.fr_at l) (g.ok.seeH_mono ft e0 (by omega) h1)
theorem dec_pa (g : t.Good) (ft : t.tb.FitT tlo thi) (h0 : t.S 0 ≤ s) (h1 : s ≤ t.S (t.nS - 1)) : ltF ⟨clm hi, 1⟩ (t.rlow t.H s s tlo thi) = decide (t.tb.past hi tlo thi ≤ s) := by
  obtain ⟨_, _, cL⟩ := sees_bd g ft (s := s) ⟨h0, Int.le_refl _, h1⟩
  by_cases h : t.tb.past hi tlo thi ≤ s
  · rw [decide_eq_true h]
    refine ltF_t.2 fun hh => ?_
    have l : t.tb.paN hi tlo thi < t.tb.cnt := Tb.cnt_lt.2 (by
      have e : t.tb.past hi tlo thi = t.tb.first + t.tb.paN hi tlo thi := rfl
      have f1 : t.tb.last = t.S (t.nS - 1) := rfl
      omega)
    have e0 : t.tb.first ≤ t.tb.past hi tlo thi := by unfold Tb.past; omega
    exact g.ok.pa_at l (leF_trans (g.ok.seeL_d _ _ _) (g.ok.seeL_d _ _ _) (by show (1 : Int) ≤ 1; omega) (g.ok.seeL_mono ft e0 h h1) ((cL hi).2.1 hh))
  · rw [decide_eq_false h]
    exact ltF_f.2 ((cL hi).2.2 (g.ok.pa_below h0 (by omega)))
/-- what the document's steps decide -/
structure StrP (t : Tab) (lo hi tlo thi fr pa : Int) : Prop where
  f0 : t.S 0 ≤ fr
  f1 : fr ≤ t.S (t.nS - 1)
  p0 : t.S 0 ≤ pa - 1
  p1 : pa - 1 ≤ t.S (t.nS - 1)
  lo_ : t.strL lo hi tlo thi = if t.S 0 < fr ∧ ltF ⟨clm lo, 1⟩ (t.rhigh t.H fr fr tlo thi) = true then fr - 1 else fr
  hi_ : t.strH lo hi tlo thi = if pa - 1 < t.S (t.nS - 1) ∧ ltF (t.rlow t.H (pa - 1) (pa - 1) tlo thi) ⟨clm hi, 1⟩ = true then pa else pa - 1
theorem strp (hE : t.strE lo hi tlo thi = 0) : StrP t lo hi tlo thi (t.tb.from_ lo tlo thi) (t.tb.past hi tlo thi) := by
  obtain ⟨hok, hlh, hT, hn⟩ := Tab.strE_zero hE
  have g := Tab.good hok
  have ft := Tab.fitT_t hT
  obtain ⟨n1, n2⟩ := Tb.noneB_f.1 hn
  have c1 := Tb.cnt_lt.1 n1
  have c2 := Tb.cnt_lt.1 (show t.tb.paN hi tlo thi - 1 < t.tb.cnt by have := Tb.paN_le (t := t.tb) (hi := hi) (tlo := tlo) (thi := thi); omega)
  have e1 : t.tb.from_ lo tlo thi = t.S 0 + t.tb.frN lo tlo thi := rfl
  have e2 : t.tb.past hi tlo thi = t.S 0 + t.tb.paN hi tlo thi := rfl
  have f0 : t.tb.first = t.S 0 := rfl
  have f1 : t.tb.last = t.S (t.nS - 1) := rfl
  rw [f0, f1] at c1 c2
  have q1 : t.S 0 ≤ t.tb.from_ lo tlo thi := by omega
  have q2 : t.tb.from_ lo tlo thi ≤ t.S (t.nS - 1) := by omega
  have q3 : t.S 0 ≤ t.tb.past hi tlo thi - 1 := by omega
  have q4 : t.tb.past hi tlo thi - 1 ≤ t.S (t.nS - 1) := by omega
  refine ⟨q1, q2, q3, q4, ?_, ?_⟩
  · have eL : t.strL lo hi tlo thi = t.tb.strLo lo tlo thi := if_pos hE
    obtain ⟨_, cH, _⟩ := sees_bd g ft (s := t.tb.from_ lo tlo thi) ⟨q1, Int.le_refl _, q2⟩
    have fa := g.ok.fr_at n1
    have ei : (¬ (t.tb.seeH tlo thi (t.tb.from_ lo tlo thi)).n = lo * (t.tb.seeH tlo thi (t.tb.from_ lo tlo thi)).d) ↔ ltF ⟨clm lo, 1⟩ (t.rhigh t.H (t.tb.from_ lo tlo thi) (t.tb.from_ lo tlo thi) tlo thi) = true := by
      rw [ltF_t, eq_ofI]
      refine not_congr ⟨fun h => (cH lo).2.2 (eqF_le h).2, fun h => le_eqF fa ((cH lo).2.1 h)⟩
    rw [eL]
    unfold Tb.strLo
    simp only [ei, f0]
  · have eH : t.strH lo hi tlo thi = t.tb.strHi hi tlo thi := if_pos hE
    obtain ⟨_, _, cL⟩ := sees_bd g ft (s := t.tb.past hi tlo thi - 1) ⟨q3, Int.le_refl _, q4⟩
    have pb := g.ok.pa_below (s := t.tb.past hi tlo thi - 1) (hi := hi) (tlo := tlo) (thi := thi) q3 (by omega)
    have ei : (¬ (t.tb.seeL tlo thi (t.tb.past hi tlo thi - 1)).n = hi * (t.tb.seeL tlo thi (t.tb.past hi tlo thi - 1)).d) ↔ ltF (t.rlow t.H (t.tb.past hi tlo thi - 1) (t.tb.past hi tlo thi - 1) tlo thi) ⟨clm hi, 1⟩ = true := by
      rw [ltF_t, eq_ofI]
      refine not_congr ⟨fun h => (cL hi).1.2 (eqF_le h).1, fun h => le_eqF ((cL hi).1.1 h) pb⟩
    rw [eH]
    unfold Tb.strHi
    simp only [ei, f1]
theorem none_dec (g : t.Good) (ft : t.tb.FitT tlo thi) : t.tb.noneB lo hi tlo thi = (ltF (t.rhigh t.H (t.S (t.nS - 1)) (t.S (t.nS - 1)) tlo thi) ⟨clm lo, 1⟩ || ltF ⟨clm hi, 1⟩ (t.rlow t.H (t.S 0) (t.S 0) tlo thi)) := by
  have len : t.S 0 < t.S (t.nS - 1) := g.ok.len
  rw [dec_fr g ft (by omega) (Int.le_refl _), dec_pa g ft (Int.le_refl _) (by omega)]
  have e1 : t.tb.from_ lo tlo thi = t.S 0 + t.tb.frN lo tlo thi := rfl
  have e2 : t.tb.past hi tlo thi = t.S 0 + t.tb.paN hi tlo thi := rfl
  have ec : t.tb.cnt = (t.S (t.nS - 1) - t.S 0 + 1).toNat := rfl
  unfold Tb.noneB
  congr 1
  · exact decide_eq_decide.2 (by omega)
  · exact decide_eq_decide.2 (by omega)
end

set_option maxRecDepth 100000 in
set_option maxHeartbeats 4000000 in
theorem rStrength_any (t : Tab) (lo hi tlo thi : Int) (w : World) (hI : t.In w) (hf : t.Fits) :
    Calls Try.prog 27 #[t.val, .agg #[.int .i64 lo, .int .i64 hi], .agg #[.int .i64 tlo, .int .i64 thi]] w fun e w' =>
      e = .returned (.tuple #[.agg #[.int .i64 (t.strL lo hi tlo thi), .int .i64 (t.strH lo hi tlo thi)], .int .i64 (t.strE lo hi tlo thi)]) ∧ Below w.heap.size w w' := by
  obtain ⟨W1, hW1⟩ : ∃ W1, (((w.alloc (.cells #[.slice t.aT t.nT t.cT, .slice t.aS t.nS t.cS, .slice t.H.a t.H.n t.H.c, .slice t.R.a t.R.n t.R.c] 25)).alloc (.cells #[.int .i64 lo, .int .i64 hi] 27)).alloc (.cells #[.int .i64 tlo, .int .i64 thi] 27)).alloc (.cells #[.int .i64 0, .int .i64 0] 27) = W1 := ⟨_, rfl⟩
  have hBc : Below w.heap.size w W1 := by rw [← hW1]; exact (((below_alloc _ _).alloc (by simp) _).alloc (by simp <;> omega) _).alloc (by simp <;> omega) _
  have zc0 : W1.heap[w.heap.size]? = some (.cells #[.slice t.aT t.nT t.cT, .slice t.aS t.nS t.cS, .slice t.H.a t.H.n t.H.c, .slice t.R.a t.R.n t.R.c] 25 (0, 0)) := by rw [← hW1]; exact alloc_keep (alloc_keep (alloc_keep (alloc_at rfl)))
  have zc1 : W1.heap[w.heap.size + 1]? = some (.cells #[.int .i64 lo, .int .i64 hi] 27 (0, 0)) := by rw [← hW1]; exact alloc_keep (alloc_keep (alloc_at (by simp)))
  have zc2 : W1.heap[w.heap.size + 1 + 1]? = some (.cells #[.int .i64 tlo, .int .i64 thi] 27 (0, 0)) := by rw [← hW1]; exact alloc_keep (alloc_at (by simp <;> omega))
  have zc3 : W1.heap[w.heap.size + 1 + 1 + 1]? = some (.cells #[.int .i64 0, .int .i64 0] 27 (0, 0)) := by rw [← hW1]; exact alloc_at (by simp <;> omega)
  have c00 : W1.cell? ⟨w.heap.size, 0, none⟩ = some (.slice t.aT t.nT t.cT) := cell_of_block zc0 0 (by simp)
  have c01 : W1.cell? ⟨w.heap.size, 1, none⟩ = some (.slice t.aS t.nS t.cS) := cell_of_block zc0 1 (by simp)
  have c02 : W1.cell? ⟨w.heap.size, 2, none⟩ = some (.slice t.H.a t.H.n t.H.c) := cell_of_block zc0 2 (by simp)
  have c03 : W1.cell? ⟨w.heap.size, 3, none⟩ = some (.slice t.R.a t.R.n t.R.c) := cell_of_block zc0 3 (by simp)
  have c10 : W1.cell? ⟨w.heap.size + 1, 0, none⟩ = some (.int .i64 lo) := cell_of_block zc1 0 (by simp)
  have c11 : W1.cell? ⟨w.heap.size + 1, 1, none⟩ = some (.int .i64 hi) := cell_of_block zc1 1 (by simp)
  have c20 : W1.cell? ⟨w.heap.size + 1 + 1, 0, none⟩ = some (.int .i64 tlo) := cell_of_block zc2 0 (by simp)
  have c21 : W1.cell? ⟨w.heap.size + 1 + 1, 1, none⟩ = some (.int .i64 thi) := cell_of_block zc2 1 (by simp)
  have c30 : W1.cell? ⟨w.heap.size + 1 + 1 + 1, 0, none⟩ = some (.int .i64 0) := cell_of_block zc3 0 (by simp)
  have c31 : W1.cell? ⟨w.heap.size + 1 + 1 + 1, 1, none⟩ = some (.int .i64 0) := cell_of_block zc3 1 (by simp)
  have lc0 := (Array.getElem?_eq_some_iff.1 zc0).1
  have lc1 := (Array.getElem?_eq_some_iff.1 zc1).1
  have lc2 := (Array.getElem?_eq_some_iff.1 zc2).1
  have lc3 := (Array.getElem?_eq_some_iff.1 zc3).1
  have fc30 := frozen_of_block zc3 0
  have fc31 := frozen_of_block zc3 1
  have Zc0 := Lib.hid zc0
  have Zc1 := Lib.hid zc1
  have Zc2 := Lib.hid zc2
  have Zc3 := Lib.hid zc3
  clear zc0 zc1 zc2 zc3
  have HBc := Lib.hid hBc; clear hBc
  have HWc := Lib.hid hW1; clear hW1
  have I1 := Lib.hid (hI.below HBc.out)
  clear hI
  cases hok : t.okB with
  | false =>
    have e3 : t.strE lo hi tlo thi = 1 := Tab.strE_bad hok
    obtain ⟨e1, e2⟩ := Tab.str_zero (t := t) (lo := lo) (hi := hi) (tlo := tlo) (thi := thi) (by rw [e3]; decide)
    rw [e1, e2, e3]
    clear e1 e2 e3
    have TB' := Lib.hid (fun W (hb : Below W1.heap.size W1 W) => rTable_b (b := false) t W (I1.out.below hb) hf hok)
    unfold Tab.val at TB' ⊢
    clear hok
    go_enter Try.func27, Try.ntmps27
    go_upto_region 1 with (fail)
    rw [HWc.out]
    go_wp2_with fail
    refine (Calls.grown (TB'.out _ (Below.refl _ W1))).mono ?_
    rintro e w1 ⟨rfl, z1, rfl⟩
    go_wp2_with fail
    refine bodyPost_ret (v := .tuple #[.agg #[.int .i64 0, .int .i64 0], .int .i64 1]) (by simp [results, Try.results27, go_sem, *]) rfl ⟨rfl, ?_⟩
    exact ((HBc.out.gw z1).setCell (by simp <;> omega) _).setCell (by simp <;> omega) _
  | true =>
    have TB' := Lib.hid (fun W (hb : Below W1.heap.size W1 W) => rTable_b (b := true) t W (I1.out.below hb) hf hok)
    by_cases hlh : lo ≤ hi
    · have d0 : decide (hi < lo) = false := by simp; omega
      have g := Tab.good hok
      have t2 := g.ok.t2
      have t32 := g.ok.t32
      have s2 := g.ok.s2
      have s32 := g.ok.s32
      simp only [Tab.tb] at t2 t32 s2 s32
      cases hT : t.fitT tlo thi with
      | false =>
        have e3 : t.strE lo hi tlo thi = 2 := Tab.strE_far hok hlh hT
        obtain ⟨e1, e2⟩ := Tab.str_zero (t := t) (lo := lo) (hi := hi) (tlo := tlo) (thi := thi) (by rw [e3]; decide)
        rw [e1, e2, e3]
        clear e1 e2 e3
        have TE' := Lib.hid (fun W (hb : Below W1.heap.size W1 W) => rTemp_b (b := false) t tlo thi W (I1.out.below hb) t2 t32 hT)
        unfold Tab.val at TB' TE' ⊢
        clear hT hok g
        go_enter Try.func27, Try.ntmps27
        go_upto_region 1 with (fail)
        rw [HWc.out]
        go_wp2_with fail
        refine (Calls.grown (TB'.out _ (Below.refl _ W1))).mono ?_
        rintro e w1 ⟨rfl, z1, rfl⟩
        go_wp2_with fail
        refine (Calls.gw_of (TE'.out _ (below_gw W1 z1))).mono ?_
        rintro e w1 ⟨rfl, z2, rfl⟩
        go_wp2_with fail
        refine bodyPost_ret (v := .tuple #[.agg #[.int .i64 0, .int .i64 0], .int .i64 2]) (by simp [results, Try.results27, go_sem, *]) rfl ⟨rfl, ?_⟩
        exact ((HBc.out.gw z2).setCell (by simp <;> omega) _).setCell (by simp <;> omega) _
      | true =>
        have TE' := Lib.hid (fun W (hb : Below W1.heap.size W1 W) => rTemp_b (b := true) t tlo thi W (I1.out.below hb) t2 t32 hT)
        have ft := Tab.fitT_t hT
        have S0 := g.ok.bS 0 (by simp only [Tab.tb]; omega)
        have S1 := g.ok.bS (t.nS - 1) (by simp only [Tab.tb]; omega)
        have len : t.S 0 < t.S (t.nS - 1) := g.ok.len
        simp only [Tab.tb] at S0 S1
        have EV' := Lib.hid (fun W (hb : Below W1.heap.size W1 W) (s : Int) (h0 : t.S 0 ≤ s) (h1 : s ≤ t.S (t.nS - 1)) => rSees_any t g s tlo thi W (I1.out.below hb) ft ⟨h0, Int.le_refl _, h1⟩)
        have LA := Lib.hid (fun (s : Int) (h0 : t.S 0 ≤ s) (h1 : s ≤ t.S (t.nS - 1)) W => rless_any (t.rhigh t.H s s tlo thi) ⟨clm lo, 1⟩ W (rhigh_fit (m := t.H) g (g.rowsH I1.out) ft ⟨h0, Int.le_refl _, h1⟩) (clm_fit lo))
        have LB := Lib.hid (fun (s : Int) (h0 : t.S 0 ≤ s) (h1 : s ≤ t.S (t.nS - 1)) W => rless_any ⟨clm hi, 1⟩ (t.rlow t.H s s tlo thi) W (clm_fit hi) (rlow_fit (m := t.H) g (g.rowsH I1.out) ft ⟨h0, Int.le_refl _, h1⟩))
        have LC := Lib.hid (fun (s : Int) (h0 : t.S 0 ≤ s) (h1 : s ≤ t.S (t.nS - 1)) W => rless_any ⟨clm lo, 1⟩ (t.rhigh t.H s s tlo thi) W (clm_fit lo) (rhigh_fit (m := t.H) g (g.rowsH I1.out) ft ⟨h0, Int.le_refl _, h1⟩))
        have LD := Lib.hid (fun (s : Int) (h0 : t.S 0 ≤ s) (h1 : s ≤ t.S (t.nS - 1)) W => rless_any (t.rlow t.H s s tlo thi) ⟨clm hi, 1⟩ W (rlow_fit (m := t.H) g (g.rowsH I1.out) ft ⟨h0, Int.le_refl _, h1⟩) (clm_fit hi))
        have DA := Lib.hid (fun (s : Int) (h0 : t.S 0 ≤ s) (h1 : s ≤ t.S (t.nS - 1)) => dec_fr (lo := lo) g ft h0 h1)
        have DB := Lib.hid (fun (s : Int) (h0 : t.S 0 ≤ s) (h1 : s ≤ t.S (t.nS - 1)) => dec_pa (hi := hi) g ft h0 h1)
        have ND := Lib.hid (none_dec (lo := lo) (hi := hi) g ft)
        have SP := Lib.hid (fun h => strp (t := t) (lo := lo) (hi := hi) (tlo := tlo) (thi := thi) h)
        have E0 := Lib.hid (fun (h : t.tb.noneB lo hi tlo thi = true) => Tab.strE_none hok hlh hT h)
        have E1 := Lib.hid (fun (h : t.tb.noneB lo hi tlo thi = false) => Tab.strE_ok hok hlh hT h)
        have EZ := Lib.hid (fun (h : ¬ t.strE lo hi tlo thi = 0) => Tab.str_zero h)
        clear hok hT hlh g ft hf
        have SP2 : Hid (t.strE lo hi tlo thi = 0 → (t.S 0 ≤ t.tb.from_ lo tlo thi ∧ t.tb.from_ lo tlo thi ≤ t.S (t.nS - 1) ∧ t.S 0 ≤ t.tb.past hi tlo thi - 1 ∧ t.tb.past hi tlo thi - 1 ≤ t.S (t.nS - 1)) ∧ (t.strL lo hi tlo thi = if t.S 0 < t.tb.from_ lo tlo thi ∧ ltF ⟨clm lo, 1⟩ (t.rhigh t.H (t.tb.from_ lo tlo thi) (t.tb.from_ lo tlo thi) tlo thi) = true then t.tb.from_ lo tlo thi - 1 else t.tb.from_ lo tlo thi) ∧ (t.strH lo hi tlo thi = if t.tb.past hi tlo thi - 1 < t.S (t.nS - 1) ∧ ltF (t.rlow t.H (t.tb.past hi tlo thi - 1) (t.tb.past hi tlo thi - 1) tlo thi) ⟨clm hi, 1⟩ = true then t.tb.past hi tlo thi else t.tb.past hi tlo thi - 1)) := Lib.hid (fun h => by obtain ⟨a, b, c, d, e, f⟩ := SP.out h; exact ⟨⟨a, b, c, d⟩, e, f⟩)
        clear SP
        obtain ⟨SL, hSL⟩ : ∃ f : Int → Fr, ∀ s, t.rlow t.H s s tlo thi = f s := ⟨_, fun _ => rfl⟩
        obtain ⟨SH, hSH⟩ : ∃ f : Int → Fr, ∀ s, t.rhigh t.H s s tlo thi = f s := ⟨_, fun _ => rfl⟩
        simp only [hSL, hSH] at EV' LA LB LC LD DA DB ND SP2
        clear hSL hSH
        generalize t.tb.noneB lo hi tlo thi = nb at *
        generalize t.tb.from_ lo tlo thi = fr at *
        generalize t.tb.past hi tlo thi = pa at *
        generalize t.strL lo hi tlo thi = sl at *
        generalize t.strH lo hi tlo thi = sh at *
        generalize t.strE lo hi tlo thi = se at *
        rcases I1.out.iS with h | ⟨bS, oS, ea, lS, hc⟩
        · omega
        have x1 := hc 0 (by omega)
        have x2 := hc (t.nS - 1) (by omega)
        rw [Nat.add_zero] at x1
        clear hc
        have e1 : ((t.nS : Int) - 1).toNat = t.nS - 1 := by omega
        have EA := Lib.hid ea
        clear ea
        generalize t.S 0 = s0 at *
        generalize t.S (t.nS - 1) = s1 at *
        unfold Tab.val at TB' TE' EV' ⊢
        unfold Fr.val at EV'
        obtain ⟨RES, hRES⟩ : ∃ E : Ending, Ending.returned (.tuple #[.agg #[.int .i64 sl, .int .i64 sh], .int .i64 se]) = E := ⟨_, rfl⟩
        rw [hRES]
        have HRES := Lib.hid hRES
        clear hRES
        go_enter Try.func27, Try.ntmps27
        go_upto_region 1 with (fail)
        rw [HWc.out]
        go_wp2_with fail
        refine (Calls.grown (TB'.out _ (Below.refl _ W1))).mono ?_
        rintro e w1 ⟨rfl, z1, rfl⟩
        go_wp2_with fail
        refine (Calls.gw_of (TE'.out _ (below_gw W1 z1))).mono ?_
        rintro e w1 ⟨rfl, z2, rfl⟩
        go_upto_region 5 with (fail)
        obtain ⟨W2, hW2⟩ : ∃ W2, gw W1 z2 = W2 := ⟨_, rfl⟩
        have hbW2 : Below W1.heap.size W1 W2 := by rw [← hW2]; exact below_gw W1 z2
        have ZtW2 := Lib.hid ((hbW2.block _ (Array.getElem?_eq_some_iff.1 Zc0.out).1).trans Zc0.out)
        have ZxW2 := Lib.hid ((hbW2.block _ (Array.getElem?_eq_some_iff.1 Zc1.out).1).trans Zc1.out)
        have ZmW2 := Lib.hid ((hbW2.block _ (Array.getElem?_eq_some_iff.1 Zc2.out).1).trans Zc2.out)
        have ZrW2 := Lib.hid ((hbW2.block _ (Array.getElem?_eq_some_iff.1 Zc3.out).1).trans Zc3.out)
        have HBW2 := Lib.hid (thru hbW2 HBc.out)
        have SBW2 := Lib.hid hbW2; clear hbW2
        have HWW2 := Lib.hid hW2; clear hW2
        rw [HWW2.out]
        clear c00 c01 c02 c03 c10 c11 c20 c21 c30 c31 fc30 fc31
        have S2 := Lib.hid SBW2.out
        have et0W2 : W2.cell? ⟨w.heap.size, 0, none⟩ = some (.slice t.aT t.nT t.cT) := cell_of_block ZtW2.out 0 (by simp)
        have et1W2 : W2.cell? ⟨w.heap.size, 1, none⟩ = some (.slice t.aS t.nS t.cS) := cell_of_block ZtW2.out 1 (by simp)
        have et2W2 : W2.cell? ⟨w.heap.size, 2, none⟩ = some (.slice t.H.a t.H.n t.H.c) := cell_of_block ZtW2.out 2 (by simp)
        have et3W2 : W2.cell? ⟨w.heap.size, 3, none⟩ = some (.slice t.R.a t.R.n t.R.c) := cell_of_block ZtW2.out 3 (by simp)
        have ltW2 := (Array.getElem?_eq_some_iff.1 ZtW2.out).1
        have y1 := below_cell S2.out x1
        have y2 := below_cell S2.out x2
        have ly := Nat.lt_of_lt_of_le lS S2.out.size
        rw [EA.out] at et1W2
        refine wp_region_gw (by kernel_rfl) (by kernel_rfl) ?_
        repeat (go_big_quiet_step (fail))
        refine wpQuiet_nil ?_
        rintro _ ⟨z9, rfl⟩
        clear y1 y2 ly x1 x2 lS e1
        go_upto_region 6 with (fail)
        obtain ⟨W3, hW3⟩ : ∃ W3, gw W2 z9 = W3 := ⟨_, rfl⟩
        have hbW3 : Below W2.heap.size W2 W3 := by rw [← hW3]; exact below_gw W2 z9
        have ZtW3 := Lib.hid ((hbW3.block _ (Array.getElem?_eq_some_iff.1 ZtW2.out).1).trans ZtW2.out)
        have ZxW3 := Lib.hid ((hbW3.block _ (Array.getElem?_eq_some_iff.1 ZxW2.out).1).trans ZxW2.out)
        have ZmW3 := Lib.hid ((hbW3.block _ (Array.getElem?_eq_some_iff.1 ZmW2.out).1).trans ZmW2.out)
        have ZrW3 := Lib.hid ((hbW3.block _ (Array.getElem?_eq_some_iff.1 ZrW2.out).1).trans ZrW2.out)
        have HBW3 := Lib.hid (thru hbW3 HBW2.out)
        have SBW3 := Lib.hid hbW3; clear hbW3
        have HWW3 := Lib.hid hW3; clear hW3
        rw [HWW3.out]
        clear et0W2 et1W2 et2W2 et3W2
        have S3 := Lib.hid (S2.out.trans (SBW3.out.mono S2.out.size))
        have ex0W3 : W3.cell? ⟨w.heap.size + 1, 0, none⟩ = some (.int .i64 lo) := cell_of_block ZxW3.out 0 (by simp)
        have ex1W3 : W3.cell? ⟨w.heap.size + 1, 1, none⟩ = some (.int .i64 hi) := cell_of_block ZxW3.out 1 (by simp)
        have lxW3 := (Array.getElem?_eq_some_iff.1 ZxW3.out).1
        refine wp_region_box2 [true, true, true, true, true, true, true, true, true, true, false, false, false, false] 10 12 11 13 #[.int .i64 0, .int .i64 0] #[.int .i64 (clm lo), .int .i64 1] #[.int .i64 0, .int .i64 0] #[.int .i64 (clm hi), .int .i64 1] (by kernel_rfl) rfl rfl rfl rfl rfl (by kernel_rfl) rfl (by kernel_rfl) rfl (by kernel_rfl) rfl infoFr rfl rfl (by simp [Value.oneCell']) infoFr rfl rfl (by simp [Value.oneCell']) ?_
        apply Exists.intro
        refine ⟨fun S hS hx => ?_, ?_, ?_, ?_⟩
        · obtain ⟨x0, hx0⟩ := hx
          haveI : Nonempty (GrewS W3 S) := ⟨⟨x0, hx0⟩⟩
          simp only [pickM]
          repeat (go_big_quiet_step (fail))
          exact wpQuiet_nil rfl
        · rfl
        · rfl
        · intro Bp Bq vpq hq1 hq2 hq3 hk1 hk2 hbb
          have HKp := Lib.hid hk1; clear hk1
          have HKq := Lib.hid hk2; clear hk2
          have SBvpq := Lib.hid (hbb)
          have Ztvpq := Lib.hid ((SBvpq.out.block _ (Array.getElem?_eq_some_iff.1 ZtW3.out).1).trans ZtW3.out)
          have Zxvpq := Lib.hid ((SBvpq.out.block _ (Array.getElem?_eq_some_iff.1 ZxW3.out).1).trans ZxW3.out)
          have Zmvpq := Lib.hid ((SBvpq.out.block _ (Array.getElem?_eq_some_iff.1 ZmW3.out).1).trans ZmW3.out)
          have Zrvpq := Lib.hid ((SBvpq.out.block _ (Array.getElem?_eq_some_iff.1 ZrW3.out).1).trans ZrW3.out)
          have HBvpq := Lib.hid (thru SBvpq.out HBW3.out)
          have Svpq := Lib.hid (S3.out.trans (SBvpq.out.mono S3.out.size))
          clear hbb
          go_upto_region 7 with (fail)
          simp only [Act.put, List.setIfInBounds_toArray, List.set_cons_succ, List.set_cons_zero]
          have et0vpq : vpq.cell? ⟨w.heap.size, 0, none⟩ = some (.slice t.aT t.nT t.cT) := cell_of_block Ztvpq.out 0 (by simp)
          have et1vpq : vpq.cell? ⟨w.heap.size, 1, none⟩ = some (.slice t.aS t.nS t.cS) := cell_of_block Ztvpq.out 1 (by simp)
          have et2vpq : vpq.cell? ⟨w.heap.size, 2, none⟩ = some (.slice t.H.a t.H.n t.H.c) := cell_of_block Ztvpq.out 2 (by simp)
          have et3vpq : vpq.cell? ⟨w.heap.size, 3, none⟩ = some (.slice t.R.a t.R.n t.R.c) := cell_of_block Ztvpq.out 3 (by simp)
          have ltvpq := (Array.getElem?_eq_some_iff.1 Ztvpq.out).1
          have em0vpq : vpq.cell? ⟨w.heap.size + 1 + 1, 0, none⟩ = some (.int .i64 tlo) := cell_of_block Zmvpq.out 0 (by simp)
          have em1vpq : vpq.cell? ⟨w.heap.size + 1 + 1, 1, none⟩ = some (.int .i64 thi) := cell_of_block Zmvpq.out 1 (by simp)
          have lmvpq := (Array.getElem?_eq_some_iff.1 Zmvpq.out).1
          go_wp2_with fail
          refine (Calls.grown (EV'.out _ (Svpq.out) s1 (by omega) (Int.le_refl _))).mono ?_
          rintro e w1 ⟨rfl, z21, rfl⟩
          go_upto_region 8 with (fail)
          obtain ⟨W31, hW31⟩ : ∃ W31, (((gw vpq z21)).alloc (.cells #[.int .i64 (SL s1).n, .int .i64 (SL s1).d] 35)).alloc (.cells #[.int .i64 (SH s1).n, .int .i64 (SH s1).d] 35) = W31 := ⟨_, rfl⟩
          have hbW31 : Below vpq.heap.size vpq W31 := by rw [← hW31]; exact ((below_gw vpq z21).alloc (by simp [gw_size]) _).alloc (by simp [gw_size] <;> omega) _
          have ZtW31 := Lib.hid ((hbW31.block _ (Array.getElem?_eq_some_iff.1 Ztvpq.out).1).trans Ztvpq.out)
          have ZxW31 := Lib.hid ((hbW31.block _ (Array.getElem?_eq_some_iff.1 Zxvpq.out).1).trans Zxvpq.out)
          have ZmW31 := Lib.hid ((hbW31.block _ (Array.getElem?_eq_some_iff.1 Zmvpq.out).1).trans Zmvpq.out)
          have ZrW31 := Lib.hid ((hbW31.block _ (Array.getElem?_eq_some_iff.1 Zrvpq.out).1).trans Zrvpq.out)
          have ZpW31 := Lib.hid ((hbW31.block _ (Array.getElem?_eq_some_iff.1 HKp.out).1).trans HKp.out)
          have ZqW31 := Lib.hid ((hbW31.block _ (Array.getElem?_eq_some_iff.1 HKq.out).1).trans HKq.out)
          have zbW31 : W31.heap[vpq.heap.size + z21.bs.size]? = some (.cells #[.int .i64 (SL s1).n, .int .i64 (SL s1).d] 35 (0, 0)) := by rw [← hW31]; exact alloc_keep (alloc_at (by simp [gw_size]))
          have ZbW31 := Lib.hid zbW31; clear zbW31
          have zcW31 : W31.heap[vpq.heap.size + z21.bs.size + 1]? = some (.cells #[.int .i64 (SH s1).n, .int .i64 (SH s1).d] 35 (0, 0)) := by rw [← hW31]; exact alloc_at (by simp [gw_size] <;> omega)
          have ZcW31 := Lib.hid zcW31; clear zcW31
          have HBW31 := Lib.hid (thru hbW31 HBvpq.out)
          have SBW31 := Lib.hid hbW31; clear hbW31
          have HWW31 := Lib.hid hW31; clear hW31
          rw [HWW31.out]
          clear et0vpq et1vpq et2vpq et3vpq em0vpq em1vpq ex0W3 ex1W3
          have S31 := Lib.hid (Svpq.out.trans (SBW31.out.mono Svpq.out.size))
          have et0W31 : W31.cell? ⟨w.heap.size, 0, none⟩ = some (.slice t.aT t.nT t.cT) := cell_of_block ZtW31.out 0 (by simp)
          have et1W31 : W31.cell? ⟨w.heap.size, 1, none⟩ = some (.slice t.aS t.nS t.cS) := cell_of_block ZtW31.out 1 (by simp)
          have et2W31 : W31.cell? ⟨w.heap.size, 2, none⟩ = some (.slice t.H.a t.H.n t.H.c) := cell_of_block ZtW31.out 2 (by simp)
          have et3W31 : W31.cell? ⟨w.heap.size, 3, none⟩ = some (.slice t.R.a t.R.n t.R.c) := cell_of_block ZtW31.out 3 (by simp)
          have ltW31 := (Array.getElem?_eq_some_iff.1 ZtW31.out).1
          have em0W31 : W31.cell? ⟨w.heap.size + 1 + 1, 0, none⟩ = some (.int .i64 tlo) := cell_of_block ZmW31.out 0 (by simp)
          have em1W31 : W31.cell? ⟨w.heap.size + 1 + 1, 1, none⟩ = some (.int .i64 thi) := cell_of_block ZmW31.out 1 (by simp)
          have lmW31 := (Array.getElem?_eq_some_iff.1 ZmW31.out).1
          go_wp2_with fail
          refine (Calls.grown (EV'.out _ (S31.out) s0 (Int.le_refl _) (by omega))).mono ?_
          rintro e w1 ⟨rfl, z22, rfl⟩
          go_upto_region 9 with (fail)
          obtain ⟨W32, hW32⟩ : ∃ W32, (((gw W31 z22)).alloc (.cells #[.int .i64 (SL s0).n, .int .i64 (SL s0).d] 35)).alloc (.cells #[.int .i64 (SH s0).n, .int .i64 (SH s0).d] 35) = W32 := ⟨_, rfl⟩
          have hbW32 : Below W31.heap.size W31 W32 := by rw [← hW32]; exact ((below_gw W31 z22).alloc (by simp [gw_size]) _).alloc (by simp [gw_size] <;> omega) _
          have ZtW32 := Lib.hid ((hbW32.block _ (Array.getElem?_eq_some_iff.1 ZtW31.out).1).trans ZtW31.out)
          have ZxW32 := Lib.hid ((hbW32.block _ (Array.getElem?_eq_some_iff.1 ZxW31.out).1).trans ZxW31.out)
          have ZmW32 := Lib.hid ((hbW32.block _ (Array.getElem?_eq_some_iff.1 ZmW31.out).1).trans ZmW31.out)
          have ZrW32 := Lib.hid ((hbW32.block _ (Array.getElem?_eq_some_iff.1 ZrW31.out).1).trans ZrW31.out)
          have ZpW32 := Lib.hid ((hbW32.block _ (Array.getElem?_eq_some_iff.1 ZpW31.out).1).trans ZpW31.out)
          have ZqW32 := Lib.hid ((hbW32.block _ (Array.getElem?_eq_some_iff.1 ZqW31.out).1).trans ZqW31.out)
          have ZbW32 := Lib.hid ((hbW32.block _ (Array.getElem?_eq_some_iff.1 ZbW31.out).1).trans ZbW31.out)
          have ZcW32 := Lib.hid ((hbW32.block _ (Array.getElem?_eq_some_iff.1 ZcW31.out).1).trans ZcW31.out)
          have zdW32 : W32.heap[W31.heap.size + z22.bs.size]? = some (.cells #[.int .i64 (SL s0).n, .int .i64 (SL s0).d] 35 (0, 0)) := by rw [← hW32]; exact alloc_keep (alloc_at (by simp [gw_size]))
          have ZdW32 := Lib.hid zdW32; clear zdW32
          have zeW32 : W32.heap[W31.heap.size + z22.bs.size + 1]? = some (.cells #[.int .i64 (SH s0).n, .int .i64 (SH s0).d] 35 (0, 0)) := by rw [← hW32]; exact alloc_at (by simp [gw_size] <;> omega)
          have ZeW32 := Lib.hid zeW32; clear zeW32
          have HBW32 := Lib.hid (thru hbW32 HBW31.out)
          have SBW32 := Lib.hid hbW32; clear hbW32
          have HWW32 := Lib.hid hW32; clear hW32
          rw [HWW32.out]
          clear et0W31 et1W31 et2W31 et3W31 em0W31 em1W31
          have S32 := Lib.hid (S31.out.trans (SBW32.out.mono S31.out.size))
          have ep0W32 : W32.cell? ⟨Bp, 0, none⟩ = some (.int .i64 (clm lo)) := cell_of_block ZpW32.out 0 (by simp)
          have ep1W32 : W32.cell? ⟨Bp, 1, none⟩ = some (.int .i64 1) := cell_of_block ZpW32.out 1 (by simp)
          have lpW32 := (Array.getElem?_eq_some_iff.1 ZpW32.out).1
          have eq0W32 : W32.cell? ⟨Bq, 0, none⟩ = some (.int .i64 (clm hi)) := cell_of_block ZqW32.out 0 (by simp)
          have eq1W32 : W32.cell? ⟨Bq, 1, none⟩ = some (.int .i64 1) := cell_of_block ZqW32.out 1 (by simp)
          have lqW32 := (Array.getElem?_eq_some_iff.1 ZqW32.out).1
          have ec0W32 : W32.cell? ⟨vpq.heap.size + z21.bs.size + 1, 0, none⟩ = some (.int .i64 (SH s1).n) := cell_of_block ZcW32.out 0 (by simp)
          have ec1W32 : W32.cell? ⟨vpq.heap.size + z21.bs.size + 1, 1, none⟩ = some (.int .i64 (SH s1).d) := cell_of_block ZcW32.out 1 (by simp)
          have lcW32 := (Array.getElem?_eq_some_iff.1 ZcW32.out).1
          have ed0W32 : W32.cell? ⟨W31.heap.size + z22.bs.size, 0, none⟩ = some (.int .i64 (SL s0).n) := cell_of_block ZdW32.out 0 (by simp)
          have ed1W32 : W32.cell? ⟨W31.heap.size + z22.bs.size, 1, none⟩ = some (.int .i64 (SL s0).d) := cell_of_block ZdW32.out 1 (by simp)
          have ldW32 := (Array.getElem?_eq_some_iff.1 ZdW32.out).1
          have er0W32 : W32.cell? ⟨w.heap.size + 1 + 1 + 1, 0, none⟩ = some (.int .i64 0) := cell_of_block ZrW32.out 0 (by simp)
          have fr0W32 := frozen_of_block ZrW32.out 0
          have er1W32 : W32.cell? ⟨w.heap.size + 1 + 1 + 1, 1, none⟩ = some (.int .i64 0) := cell_of_block ZrW32.out 1 (by simp)
          have fr1W32 := frozen_of_block ZrW32.out 1
          have lrW32 := (Array.getElem?_eq_some_iff.1 ZrW32.out).1
          have N1 := LA.out s1 (by omega) (Int.le_refl _)
          have N2 := LB.out s0 (Int.le_refl _) (by omega)
          cases v1 : ltF (SH s1) ⟨clm lo, 1⟩ with
          | false =>
            simp only [v1] at N1
            have HN1 := Lib.hid N1
            clear N1
            cases v2 : ltF ⟨clm hi, 1⟩ (SL s0) with
            | false =>
              simp only [v2] at N2
              have HN2 := Lib.hid N2
              have hn := ND.out
              rw [v1, v2, Bool.false_or] at hn
              have e4 := E1.out hn
              obtain ⟨⟨f0, f1, p0, p1⟩, el, eh⟩ := SP2.out e4
              subst e4
              have HEL := Lib.hid el
              have HEH := Lib.hid eh
              clear el eh hn N2 v1 v2 ND SP2 E0 E1 EZ
              go_wp2_with fail
              refine (Calls.grown (HN1.out _)).mono ?_
              rintro e w1 ⟨rfl, z23, rfl⟩
              go_wp2_with fail
              refine (Calls.gw_of (HN2.out _)).mono ?_
              rintro e w1 ⟨rfl, z24, rfl⟩
              go_upto_region 11 with (fail)
              obtain ⟨W33, hW33⟩ : ∃ W33, gw W32 z24 = W33 := ⟨_, rfl⟩
              have hbW33 : Below W32.heap.size W32 W33 := by rw [← hW33]; exact below_gw W32 z24
              have ZtW33 := Lib.hid ((hbW33.block _ (Array.getElem?_eq_some_iff.1 ZtW32.out).1).trans ZtW32.out)
              have ZxW33 := Lib.hid ((hbW33.block _ (Array.getElem?_eq_some_iff.1 ZxW32.out).1).trans ZxW32.out)
              have ZmW33 := Lib.hid ((hbW33.block _ (Array.getElem?_eq_some_iff.1 ZmW32.out).1).trans ZmW32.out)
              have ZrW33 := Lib.hid ((hbW33.block _ (Array.getElem?_eq_some_iff.1 ZrW32.out).1).trans ZrW32.out)
              have ZpW33 := Lib.hid ((hbW33.block _ (Array.getElem?_eq_some_iff.1 ZpW32.out).1).trans ZpW32.out)
              have ZqW33 := Lib.hid ((hbW33.block _ (Array.getElem?_eq_some_iff.1 ZqW32.out).1).trans ZqW32.out)
              have ZbW33 := Lib.hid ((hbW33.block _ (Array.getElem?_eq_some_iff.1 ZbW32.out).1).trans ZbW32.out)
              have ZcW33 := Lib.hid ((hbW33.block _ (Array.getElem?_eq_some_iff.1 ZcW32.out).1).trans ZcW32.out)
              have ZdW33 := Lib.hid ((hbW33.block _ (Array.getElem?_eq_some_iff.1 ZdW32.out).1).trans ZdW32.out)
              have ZeW33 := Lib.hid ((hbW33.block _ (Array.getElem?_eq_some_iff.1 ZeW32.out).1).trans ZeW32.out)
              have HBW33 := Lib.hid (thru hbW33 HBW32.out)
              have SBW33 := Lib.hid hbW33; clear hbW33
              have HWW33 := Lib.hid hW33; clear hW33
              rw [HWW33.out]
              clear ep0W32 ep1W32 eq0W32 eq1W32 ec0W32 ec1W32 ed0W32 ed1W32 er0W32 er1W32 fr0W32 fr1W32
              have S33 := Lib.hid (S32.out.trans (SBW33.out.mono S32.out.size))
              clear HN1 HN2
              go_wp2_with fail
              go_loopw [16, 17] (fun u v wr => ∃ x y : Int, u = .int .i64 x ∧ v = .int .i64 y ∧ (s0 ≤ x ∧ x ≤ fr ∧ fr ≤ y ∧ y ≤ s1) ∧ Hid (Below W33.heap.size W33 wr)) (fun u v _ => (intOf v - intOf u).toNat)
              case atStart => exact ⟨s0, s1, rfl, rfl, ⟨Int.le_refl _, f0, f1, Int.le_refl _⟩, Lib.hid (Below.refl _ _)⟩
              case round =>
                obtain ⟨x, y, rfl, rfl, ⟨i0, i1, i2, i3⟩, BR⟩ := hrel
                by_cases hxy : x < y
                · have hxy2 : x < y := hxy
                  have SBwr := Lib.hid (BR.out)
                  have Ztwr := Lib.hid ((SBwr.out.block _ (Array.getElem?_eq_some_iff.1 ZtW33.out).1).trans ZtW33.out)
                  have Zxwr := Lib.hid ((SBwr.out.block _ (Array.getElem?_eq_some_iff.1 ZxW33.out).1).trans ZxW33.out)
                  have Zmwr := Lib.hid ((SBwr.out.block _ (Array.getElem?_eq_some_iff.1 ZmW33.out).1).trans ZmW33.out)
                  have Zrwr := Lib.hid ((SBwr.out.block _ (Array.getElem?_eq_some_iff.1 ZrW33.out).1).trans ZrW33.out)
                  have Zpwr := Lib.hid ((SBwr.out.block _ (Array.getElem?_eq_some_iff.1 ZpW33.out).1).trans ZpW33.out)
                  have Zqwr := Lib.hid ((SBwr.out.block _ (Array.getElem?_eq_some_iff.1 ZqW33.out).1).trans ZqW33.out)
                  have Zbwr := Lib.hid ((SBwr.out.block _ (Array.getElem?_eq_some_iff.1 ZbW33.out).1).trans ZbW33.out)
                  have Zcwr := Lib.hid ((SBwr.out.block _ (Array.getElem?_eq_some_iff.1 ZcW33.out).1).trans ZcW33.out)
                  have Zdwr := Lib.hid ((SBwr.out.block _ (Array.getElem?_eq_some_iff.1 ZdW33.out).1).trans ZdW33.out)
                  have Zewr := Lib.hid ((SBwr.out.block _ (Array.getElem?_eq_some_iff.1 ZeW33.out).1).trans ZeW33.out)
                  have HBwr := Lib.hid (thru SBwr.out HBW33.out)
                  have Swr := Lib.hid (S33.out.trans (SBwr.out.mono S33.out.size))
                  obtain ⟨md, hmd⟩ : ∃ m, (x + y) / 2 = m := ⟨_, rfl⟩
                  have md0 : x ≤ md ∧ md < y := by omega
                  have xy0 : 0 ≤ x + y ∧ x + y ≤ 20000 := by omega
                  have et0wr : wr.cell? ⟨w.heap.size, 0, none⟩ = some (.slice t.aT t.nT t.cT) := cell_of_block Ztwr.out 0 (by simp)
                  have et1wr : wr.cell? ⟨w.heap.size, 1, none⟩ = some (.slice t.aS t.nS t.cS) := cell_of_block Ztwr.out 1 (by simp)
                  have et2wr : wr.cell? ⟨w.heap.size, 2, none⟩ = some (.slice t.H.a t.H.n t.H.c) := cell_of_block Ztwr.out 2 (by simp)
                  have et3wr : wr.cell? ⟨w.heap.size, 3, none⟩ = some (.slice t.R.a t.R.n t.R.c) := cell_of_block Ztwr.out 3 (by simp)
                  have ltwr := (Array.getElem?_eq_some_iff.1 Ztwr.out).1
                  have em0wr : wr.cell? ⟨w.heap.size + 1 + 1, 0, none⟩ = some (.int .i64 tlo) := cell_of_block Zmwr.out 0 (by simp)
                  have em1wr : wr.cell? ⟨w.heap.size + 1 + 1, 1, none⟩ = some (.int .i64 thi) := cell_of_block Zmwr.out 1 (by simp)
                  have lmwr := (Array.getElem?_eq_some_iff.1 Zmwr.out).1
                  go_wp2_with fail
                  refine (Calls.grown (EV'.out _ (Swr.out) md (by omega) (by omega))).mono ?_
                  rintro e w1 ⟨rfl, z31, rfl⟩
                  go_upto_region 15 with (fail)
                  obtain ⟨W34, hW34⟩ : ∃ W34, (((gw wr z31)).alloc (.cells #[.int .i64 (SL md).n, .int .i64 (SL md).d] 35)).alloc (.cells #[.int .i64 (SH md).n, .int .i64 (SH md).d] 35) = W34 := ⟨_, rfl⟩
                  have hbW34 : Below wr.heap.size wr W34 := by rw [← hW34]; exact ((below_gw wr z31).alloc (by simp [gw_size]) _).alloc (by simp [gw_size] <;> omega) _
                  have ZtW34 := Lib.hid ((hbW34.block _ (Array.getElem?_eq_some_iff.1 Ztwr.out).1).trans Ztwr.out)
                  have ZxW34 := Lib.hid ((hbW34.block _ (Array.getElem?_eq_some_iff.1 Zxwr.out).1).trans Zxwr.out)
                  have ZmW34 := Lib.hid ((hbW34.block _ (Array.getElem?_eq_some_iff.1 Zmwr.out).1).trans Zmwr.out)
                  have ZrW34 := Lib.hid ((hbW34.block _ (Array.getElem?_eq_some_iff.1 Zrwr.out).1).trans Zrwr.out)
                  have ZpW34 := Lib.hid ((hbW34.block _ (Array.getElem?_eq_some_iff.1 Zpwr.out).1).trans Zpwr.out)
                  have ZqW34 := Lib.hid ((hbW34.block _ (Array.getElem?_eq_some_iff.1 Zqwr.out).1).trans Zqwr.out)
                  have ZbW34 := Lib.hid ((hbW34.block _ (Array.getElem?_eq_some_iff.1 Zbwr.out).1).trans Zbwr.out)
                  have ZcW34 := Lib.hid ((hbW34.block _ (Array.getElem?_eq_some_iff.1 Zcwr.out).1).trans Zcwr.out)
                  have ZdW34 := Lib.hid ((hbW34.block _ (Array.getElem?_eq_some_iff.1 Zdwr.out).1).trans Zdwr.out)
                  have ZeW34 := Lib.hid ((hbW34.block _ (Array.getElem?_eq_some_iff.1 Zewr.out).1).trans Zewr.out)
                  have zfW34 : W34.heap[wr.heap.size + z31.bs.size]? = some (.cells #[.int .i64 (SL md).n, .int .i64 (SL md).d] 35 (0, 0)) := by rw [← hW34]; exact alloc_keep (alloc_at (by simp [gw_size]))
                  have ZfW34 := Lib.hid zfW34; clear zfW34
                  have zgW34 : W34.heap[wr.heap.size + z31.bs.size + 1]? = some (.cells #[.int .i64 (SH md).n, .int .i64 (SH md).d] 35 (0, 0)) := by rw [← hW34]; exact alloc_at (by simp [gw_size] <;> omega)
                  have ZgW34 := Lib.hid zgW34; clear zgW34
                  have HBW34 := Lib.hid (thru hbW34 HBwr.out)
                  have SBW34 := Lib.hid hbW34; clear hbW34
                  have HWW34 := Lib.hid hW34; clear hW34
                  rw [HWW34.out]
                  clear et0wr et1wr et2wr et3wr em0wr em1wr
                  have S34 := Lib.hid (Swr.out.trans (SBW34.out.mono Swr.out.size))
                  have ep0W34 : W34.cell? ⟨Bp, 0, none⟩ = some (.int .i64 (clm lo)) := cell_of_block ZpW34.out 0 (by simp)
                  have ep1W34 : W34.cell? ⟨Bp, 1, none⟩ = some (.int .i64 1) := cell_of_block ZpW34.out 1 (by simp)
                  have lpW34 := (Array.getElem?_eq_some_iff.1 ZpW34.out).1
                  have eg0W34 : W34.cell? ⟨wr.heap.size + z31.bs.size + 1, 0, none⟩ = some (.int .i64 (SH md).n) := cell_of_block ZgW34.out 0 (by simp)
                  have eg1W34 : W34.cell? ⟨wr.heap.size + z31.bs.size + 1, 1, none⟩ = some (.int .i64 (SH md).d) := cell_of_block ZgW34.out 1 (by simp)
                  have lgW34 := (Array.getElem?_eq_some_iff.1 ZgW34.out).1
                  have D := DA.out md (by omega) (by omega)
                  have LX := LA.out md (by omega) (by omega)
                  simp only [D] at LX
                  clear D
                  by_cases hd : md < fr
                  · have d9 : decide (md < fr) = true := by simp [hd]
                    simp only [d9] at LX
                    have HLX := Lib.hid LX
                    clear LX d9
                    go_wp2_with fail
                    refine (Calls.grown (HLX.out _)).mono ?_
                    rintro e w1 ⟨rfl, z32, rfl⟩
                    go_wp2_with fail
                    go_roundw
                    case rel => exact ⟨md + 1, y, rfl, rfl, ⟨by omega, by omega, by omega, by omega⟩, Lib.hid (BR.out.trans ((SBW34.out.trans ((below_gw W34 z32).mono SBW34.out.size)).mono BR.out.size))⟩
                    case measure => simp [intOf]; omega
                  · have d9 : decide (md < fr) = false := by simp; omega
                    simp only [d9] at LX
                    have HLX := Lib.hid LX
                    clear LX d9
                    go_wp2_with fail
                    refine (Calls.grown (HLX.out _)).mono ?_
                    rintro e w1 ⟨rfl, z32, rfl⟩
                    go_wp2_with fail
                    go_roundw
                    case rel => exact ⟨x, md, rfl, rfl, ⟨by omega, by omega, by omega, by omega⟩, Lib.hid (BR.out.trans ((SBW34.out.trans ((below_gw W34 z32).mono SBW34.out.size)).mono BR.out.size))⟩
                    case measure => simp [intOf]; omega
                · obtain rfl : fr = x := by omega
                  obtain rfl : fr = y := by omega
                  clear hxy i0 i1 i2 i3
                  have SBwr := Lib.hid (BR.out)
                  have Ztwr := Lib.hid ((SBwr.out.block _ (Array.getElem?_eq_some_iff.1 ZtW33.out).1).trans ZtW33.out)
                  have Zxwr := Lib.hid ((SBwr.out.block _ (Array.getElem?_eq_some_iff.1 ZxW33.out).1).trans ZxW33.out)
                  have Zmwr := Lib.hid ((SBwr.out.block _ (Array.getElem?_eq_some_iff.1 ZmW33.out).1).trans ZmW33.out)
                  have Zrwr := Lib.hid ((SBwr.out.block _ (Array.getElem?_eq_some_iff.1 ZrW33.out).1).trans ZrW33.out)
                  have Zpwr := Lib.hid ((SBwr.out.block _ (Array.getElem?_eq_some_iff.1 ZpW33.out).1).trans ZpW33.out)
                  have Zqwr := Lib.hid ((SBwr.out.block _ (Array.getElem?_eq_some_iff.1 ZqW33.out).1).trans ZqW33.out)
                  have Zbwr := Lib.hid ((SBwr.out.block _ (Array.getElem?_eq_some_iff.1 ZbW33.out).1).trans ZbW33.out)
                  have Zcwr := Lib.hid ((SBwr.out.block _ (Array.getElem?_eq_some_iff.1 ZcW33.out).1).trans ZcW33.out)
                  have Zdwr := Lib.hid ((SBwr.out.block _ (Array.getElem?_eq_some_iff.1 ZdW33.out).1).trans ZdW33.out)
                  have Zewr := Lib.hid ((SBwr.out.block _ (Array.getElem?_eq_some_iff.1 ZeW33.out).1).trans ZeW33.out)
                  have HBwr := Lib.hid (thru SBwr.out HBW33.out)
                  have Swr := Lib.hid (S33.out.trans (SBwr.out.mono S33.out.size))
                  have et0wr : wr.cell? ⟨w.heap.size, 0, none⟩ = some (.slice t.aT t.nT t.cT) := cell_of_block Ztwr.out 0 (by simp)
                  have et1wr : wr.cell? ⟨w.heap.size, 1, none⟩ = some (.slice t.aS t.nS t.cS) := cell_of_block Ztwr.out 1 (by simp)
                  have et2wr : wr.cell? ⟨w.heap.size, 2, none⟩ = some (.slice t.H.a t.H.n t.H.c) := cell_of_block Ztwr.out 2 (by simp)
                  have et3wr : wr.cell? ⟨w.heap.size, 3, none⟩ = some (.slice t.R.a t.R.n t.R.c) := cell_of_block Ztwr.out 3 (by simp)
                  have ltwr := (Array.getElem?_eq_some_iff.1 Ztwr.out).1
                  have em0wr : wr.cell? ⟨w.heap.size + 1 + 1, 0, none⟩ = some (.int .i64 tlo) := cell_of_block Zmwr.out 0 (by simp)
                  have em1wr : wr.cell? ⟨w.heap.size + 1 + 1, 1, none⟩ = some (.int .i64 thi) := cell_of_block Zmwr.out 1 (by simp)
                  have lmwr := (Array.getElem?_eq_some_iff.1 Zmwr.out).1
                  have nlt : ¬ fr < fr := by omega
                  go_wp2_with fail
                  refine (Calls.grown (EV'.out _ (Swr.out) fr f0 f1)).mono ?_
                  rintro e w1 ⟨rfl, z41, rfl⟩
                  go_upto_region 19 with (fail)
                  obtain ⟨W51, hW51⟩ : ∃ W51, (((gw wr z41)).alloc (.cells #[.int .i64 (SL fr).n, .int .i64 (SL fr).d] 35)).alloc (.cells #[.int .i64 (SH fr).n, .int .i64 (SH fr).d] 35) = W51 := ⟨_, rfl⟩
                  have hbW51 : Below wr.heap.size wr W51 := by rw [← hW51]; exact ((below_gw wr z41).alloc (by simp [gw_size]) _).alloc (by simp [gw_size] <;> omega) _
                  have ZtW51 := Lib.hid ((hbW51.block _ (Array.getElem?_eq_some_iff.1 Ztwr.out).1).trans Ztwr.out)
                  have ZxW51 := Lib.hid ((hbW51.block _ (Array.getElem?_eq_some_iff.1 Zxwr.out).1).trans Zxwr.out)
                  have ZmW51 := Lib.hid ((hbW51.block _ (Array.getElem?_eq_some_iff.1 Zmwr.out).1).trans Zmwr.out)
                  have ZrW51 := Lib.hid ((hbW51.block _ (Array.getElem?_eq_some_iff.1 Zrwr.out).1).trans Zrwr.out)
                  have ZpW51 := Lib.hid ((hbW51.block _ (Array.getElem?_eq_some_iff.1 Zpwr.out).1).trans Zpwr.out)
                  have ZqW51 := Lib.hid ((hbW51.block _ (Array.getElem?_eq_some_iff.1 Zqwr.out).1).trans Zqwr.out)
                  have ZbW51 := Lib.hid ((hbW51.block _ (Array.getElem?_eq_some_iff.1 Zbwr.out).1).trans Zbwr.out)
                  have ZcW51 := Lib.hid ((hbW51.block _ (Array.getElem?_eq_some_iff.1 Zcwr.out).1).trans Zcwr.out)
                  have ZdW51 := Lib.hid ((hbW51.block _ (Array.getElem?_eq_some_iff.1 Zdwr.out).1).trans Zdwr.out)
                  have ZeW51 := Lib.hid ((hbW51.block _ (Array.getElem?_eq_some_iff.1 Zewr.out).1).trans Zewr.out)
                  have zfW51 : W51.heap[wr.heap.size + z41.bs.size]? = some (.cells #[.int .i64 (SL fr).n, .int .i64 (SL fr).d] 35 (0, 0)) := by rw [← hW51]; exact alloc_keep (alloc_at (by simp [gw_size]))
                  have ZfW51 := Lib.hid zfW51; clear zfW51
                  have zgW51 : W51.heap[wr.heap.size + z41.bs.size + 1]? = some (.cells #[.int .i64 (SH fr).n, .int .i64 (SH fr).d] 35 (0, 0)) := by rw [← hW51]; exact alloc_at (by simp [gw_size] <;> omega)
                  have ZgW51 := Lib.hid zgW51; clear zgW51
                  have HBW51 := Lib.hid (thru hbW51 HBwr.out)
                  have SBW51 := Lib.hid hbW51; clear hbW51
                  have HWW51 := Lib.hid hW51; clear hW51
                  rw [HWW51.out]
                  clear et0wr et1wr et2wr et3wr em0wr em1wr
                  have S51 := Lib.hid (Swr.out.trans (SBW51.out.mono Swr.out.size))
                  have ep0W51 : W51.cell? ⟨Bp, 0, none⟩ = some (.int .i64 (clm lo)) := cell_of_block ZpW51.out 0 (by simp)
                  have ep1W51 : W51.cell? ⟨Bp, 1, none⟩ = some (.int .i64 1) := cell_of_block ZpW51.out 1 (by simp)
                  have lpW51 := (Array.getElem?_eq_some_iff.1 ZpW51.out).1
                  have eg0W51 : W51.cell? ⟨wr.heap.size + z41.bs.size + 1, 0, none⟩ = some (.int .i64 (SH fr).n) := cell_of_block ZgW51.out 0 (by simp)
                  have eg1W51 : W51.cell? ⟨wr.heap.size + z41.bs.size + 1, 1, none⟩ = some (.int .i64 (SH fr).d) := cell_of_block ZgW51.out 1 (by simp)
                  have lgW51 := (Array.getElem?_eq_some_iff.1 ZgW51.out).1
                  have LX := LC.out fr f0 f1
                  by_cases a1 : s0 < fr
                  · have d6 : decide (s0 < fr) = true := by simp [a1]
                    cases v7 : ltF ⟨clm lo, 1⟩ (SH fr) with
                    | false =>
                      have el := HEL.out
                      rw [if_neg (fun h => by rw [v7] at h; cases h.2)] at el
                      simp only [v7] at LX
                      have HLX := Lib.hid LX
                      have EL2 := Lib.hid el
                      clear LX v7 a1 el
                      go_wp2_with fail
                      refine (Calls.grown (HLX.out _)).mono ?_
                      rintro e w1 ⟨rfl, z42, rfl⟩
                      go_upto_region 21 with (fail)
                      obtain ⟨W52, hW52⟩ : ∃ W52, gw W51 z42 = W52 := ⟨_, rfl⟩
                      have hbW52 : Below W51.heap.size W51 W52 := by rw [← hW52]; exact below_gw W51 z42
                      have ZtW52 := Lib.hid ((hbW52.block _ (Array.getElem?_eq_some_iff.1 ZtW51.out).1).trans ZtW51.out)
                      have ZxW52 := Lib.hid ((hbW52.block _ (Array.getElem?_eq_some_iff.1 ZxW51.out).1).trans ZxW51.out)
                      have ZmW52 := Lib.hid ((hbW52.block _ (Array.getElem?_eq_some_iff.1 ZmW51.out).1).trans ZmW51.out)
                      have ZrW52 := Lib.hid ((hbW52.block _ (Array.getElem?_eq_some_iff.1 ZrW51.out).1).trans ZrW51.out)
                      have ZpW52 := Lib.hid ((hbW52.block _ (Array.getElem?_eq_some_iff.1 ZpW51.out).1).trans ZpW51.out)
                      have ZqW52 := Lib.hid ((hbW52.block _ (Array.getElem?_eq_some_iff.1 ZqW51.out).1).trans ZqW51.out)
                      have ZbW52 := Lib.hid ((hbW52.block _ (Array.getElem?_eq_some_iff.1 ZbW51.out).1).trans ZbW51.out)
                      have ZcW52 := Lib.hid ((hbW52.block _ (Array.getElem?_eq_some_iff.1 ZcW51.out).1).trans ZcW51.out)
                      have ZdW52 := Lib.hid ((hbW52.block _ (Array.getElem?_eq_some_iff.1 ZdW51.out).1).trans ZdW51.out)
                      have ZeW52 := Lib.hid ((hbW52.block _ (Array.getElem?_eq_some_iff.1 ZeW51.out).1).trans ZeW51.out)
                      have ZfW52 := Lib.hid ((hbW52.block _ (Array.getElem?_eq_some_iff.1 ZfW51.out).1).trans ZfW51.out)
                      have ZgW52 := Lib.hid ((hbW52.block _ (Array.getElem?_eq_some_iff.1 ZgW51.out).1).trans ZgW51.out)
                      have HBW52 := Lib.hid (thru hbW52 HBW51.out)
                      have SBW52 := Lib.hid hbW52; clear hbW52
                      have HWW52 := Lib.hid hW52; clear hW52
                      rw [HWW52.out]
                      clear ep0W51 ep1W51 eg0W51 eg1W51
                      have S52 := Lib.hid (S51.out.trans (SBW52.out.mono S51.out.size))
                      go_wp2_with fail
                      go_loopw [23, 24] (fun u v wr => ∃ x y : Int, u = .int .i64 x ∧ v = .int .i64 y ∧ (s0 ≤ x ∧ x ≤ (pa - 1) ∧ (pa - 1) ≤ y ∧ y ≤ s1) ∧ Hid (Below W52.heap.size W52 wr)) (fun u v _ => (intOf v - intOf u).toNat)
                      case atStart => exact ⟨s0, s1, rfl, rfl, ⟨Int.le_refl _, p0, p1, Int.le_refl _⟩, Lib.hid (Below.refl _ _)⟩
                      case round =>
                        obtain ⟨x, y, rfl, rfl, ⟨i0, i1, i2, i3⟩, BR⟩ := hrel
                        by_cases hxy : x < y
                        · have hxy2 : x < y := hxy
                          have SBwr := Lib.hid (BR.out)
                          have Ztwr := Lib.hid ((SBwr.out.block _ (Array.getElem?_eq_some_iff.1 ZtW52.out).1).trans ZtW52.out)
                          have Zxwr := Lib.hid ((SBwr.out.block _ (Array.getElem?_eq_some_iff.1 ZxW52.out).1).trans ZxW52.out)
                          have Zmwr := Lib.hid ((SBwr.out.block _ (Array.getElem?_eq_some_iff.1 ZmW52.out).1).trans ZmW52.out)
                          have Zrwr := Lib.hid ((SBwr.out.block _ (Array.getElem?_eq_some_iff.1 ZrW52.out).1).trans ZrW52.out)
                          have Zpwr := Lib.hid ((SBwr.out.block _ (Array.getElem?_eq_some_iff.1 ZpW52.out).1).trans ZpW52.out)
                          have Zqwr := Lib.hid ((SBwr.out.block _ (Array.getElem?_eq_some_iff.1 ZqW52.out).1).trans ZqW52.out)
                          have Zbwr := Lib.hid ((SBwr.out.block _ (Array.getElem?_eq_some_iff.1 ZbW52.out).1).trans ZbW52.out)
                          have Zcwr := Lib.hid ((SBwr.out.block _ (Array.getElem?_eq_some_iff.1 ZcW52.out).1).trans ZcW52.out)
                          have Zdwr := Lib.hid ((SBwr.out.block _ (Array.getElem?_eq_some_iff.1 ZdW52.out).1).trans ZdW52.out)
                          have Zewr := Lib.hid ((SBwr.out.block _ (Array.getElem?_eq_some_iff.1 ZeW52.out).1).trans ZeW52.out)
                          have Zfwr := Lib.hid ((SBwr.out.block _ (Array.getElem?_eq_some_iff.1 ZfW52.out).1).trans ZfW52.out)
                          have Zgwr := Lib.hid ((SBwr.out.block _ (Array.getElem?_eq_some_iff.1 ZgW52.out).1).trans ZgW52.out)
                          have HBwr := Lib.hid (thru SBwr.out HBW52.out)
                          have Swr := Lib.hid (S52.out.trans (SBwr.out.mono S52.out.size))
                          obtain ⟨md, hmd⟩ : ∃ m, (x + y + 1) / 2 = m := ⟨_, rfl⟩
                          have md0 : x < md ∧ md ≤ y := by omega
                          have xy0 : 0 ≤ x + y + 1 ∧ x + y + 1 ≤ 20001 := by omega
                          have et0wr : wr.cell? ⟨w.heap.size, 0, none⟩ = some (.slice t.aT t.nT t.cT) := cell_of_block Ztwr.out 0 (by simp)
                          have et1wr : wr.cell? ⟨w.heap.size, 1, none⟩ = some (.slice t.aS t.nS t.cS) := cell_of_block Ztwr.out 1 (by simp)
                          have et2wr : wr.cell? ⟨w.heap.size, 2, none⟩ = some (.slice t.H.a t.H.n t.H.c) := cell_of_block Ztwr.out 2 (by simp)
                          have et3wr : wr.cell? ⟨w.heap.size, 3, none⟩ = some (.slice t.R.a t.R.n t.R.c) := cell_of_block Ztwr.out 3 (by simp)
                          have ltwr := (Array.getElem?_eq_some_iff.1 Ztwr.out).1
                          have em0wr : wr.cell? ⟨w.heap.size + 1 + 1, 0, none⟩ = some (.int .i64 tlo) := cell_of_block Zmwr.out 0 (by simp)
                          have em1wr : wr.cell? ⟨w.heap.size + 1 + 1, 1, none⟩ = some (.int .i64 thi) := cell_of_block Zmwr.out 1 (by simp)
                          have lmwr := (Array.getElem?_eq_some_iff.1 Zmwr.out).1
                          go_wp2_with fail
                          refine (Calls.grown (EV'.out _ (Swr.out) md (by omega) (by omega))).mono ?_
                          rintro e w1 ⟨rfl, z31, rfl⟩
                          go_upto_region 25 with (fail)
                          obtain ⟨W53, hW53⟩ : ∃ W53, (((gw wr z31)).alloc (.cells #[.int .i64 (SL md).n, .int .i64 (SL md).d] 35)).alloc (.cells #[.int .i64 (SH md).n, .int .i64 (SH md).d] 35) = W53 := ⟨_, rfl⟩
                          have hbW53 : Below wr.heap.size wr W53 := by rw [← hW53]; exact ((below_gw wr z31).alloc (by simp [gw_size]) _).alloc (by simp [gw_size] <;> omega) _
                          have ZtW53 := Lib.hid ((hbW53.block _ (Array.getElem?_eq_some_iff.1 Ztwr.out).1).trans Ztwr.out)
                          have ZxW53 := Lib.hid ((hbW53.block _ (Array.getElem?_eq_some_iff.1 Zxwr.out).1).trans Zxwr.out)
                          have ZmW53 := Lib.hid ((hbW53.block _ (Array.getElem?_eq_some_iff.1 Zmwr.out).1).trans Zmwr.out)
                          have ZrW53 := Lib.hid ((hbW53.block _ (Array.getElem?_eq_some_iff.1 Zrwr.out).1).trans Zrwr.out)
                          have ZpW53 := Lib.hid ((hbW53.block _ (Array.getElem?_eq_some_iff.1 Zpwr.out).1).trans Zpwr.out)
                          have ZqW53 := Lib.hid ((hbW53.block _ (Array.getElem?_eq_some_iff.1 Zqwr.out).1).trans Zqwr.out)
                          have ZbW53 := Lib.hid ((hbW53.block _ (Array.getElem?_eq_some_iff.1 Zbwr.out).1).trans Zbwr.out)
                          have ZcW53 := Lib.hid ((hbW53.block _ (Array.getElem?_eq_some_iff.1 Zcwr.out).1).trans Zcwr.out)
                          have ZdW53 := Lib.hid ((hbW53.block _ (Array.getElem?_eq_some_iff.1 Zdwr.out).1).trans Zdwr.out)
                          have ZeW53 := Lib.hid ((hbW53.block _ (Array.getElem?_eq_some_iff.1 Zewr.out).1).trans Zewr.out)
                          have ZfW53 := Lib.hid ((hbW53.block _ (Array.getElem?_eq_some_iff.1 Zfwr.out).1).trans Zfwr.out)
                          have ZgW53 := Lib.hid ((hbW53.block _ (Array.getElem?_eq_some_iff.1 Zgwr.out).1).trans Zgwr.out)
                          have zfW53 : W53.heap[wr.heap.size + z31.bs.size]? = some (.cells #[.int .i64 (SL md).n, .int .i64 (SL md).d] 35 (0, 0)) := by rw [← hW53]; exact alloc_keep (alloc_at (by simp [gw_size]))
                          have ZfW53 := Lib.hid zfW53; clear zfW53
                          have zgW53 : W53.heap[wr.heap.size + z31.bs.size + 1]? = some (.cells #[.int .i64 (SH md).n, .int .i64 (SH md).d] 35 (0, 0)) := by rw [← hW53]; exact alloc_at (by simp [gw_size] <;> omega)
                          have ZgW53 := Lib.hid zgW53; clear zgW53
                          have HBW53 := Lib.hid (thru hbW53 HBwr.out)
                          have SBW53 := Lib.hid hbW53; clear hbW53
                          have HWW53 := Lib.hid hW53; clear hW53
                          rw [HWW53.out]
                          clear et0wr et1wr et2wr et3wr em0wr em1wr
                          have S53 := Lib.hid (Swr.out.trans (SBW53.out.mono Swr.out.size))
                          have eq0W53 : W53.cell? ⟨Bq, 0, none⟩ = some (.int .i64 (clm hi)) := cell_of_block ZqW53.out 0 (by simp)
                          have eq1W53 : W53.cell? ⟨Bq, 1, none⟩ = some (.int .i64 1) := cell_of_block ZqW53.out 1 (by simp)
                          have lqW53 := (Array.getElem?_eq_some_iff.1 ZqW53.out).1
                          have ef0W53 : W53.cell? ⟨wr.heap.size + z31.bs.size, 0, none⟩ = some (.int .i64 (SL md).n) := cell_of_block ZfW53.out 0 (by simp)
                          have ef1W53 : W53.cell? ⟨wr.heap.size + z31.bs.size, 1, none⟩ = some (.int .i64 (SL md).d) := cell_of_block ZfW53.out 1 (by simp)
                          have lfW53 := (Array.getElem?_eq_some_iff.1 ZfW53.out).1
                          have D := DB.out md (by omega) (by omega)
                          have LX := LB.out md (by omega) (by omega)
                          simp only [D] at LX
                          clear D
                          by_cases hd : pa ≤ md
                          · have d9 : decide (pa ≤ md) = true := by simp [hd]
                            simp only [d9] at LX
                            have HLX := Lib.hid LX
                            clear LX d9
                            go_wp2_with fail
                            refine (Calls.grown (HLX.out _)).mono ?_
                            rintro e w1 ⟨rfl, z32, rfl⟩
                            go_wp2_with fail
                            go_roundw
                            case rel => exact ⟨x, md - 1, rfl, rfl, ⟨by omega, by omega, by omega, by omega⟩, Lib.hid (BR.out.trans ((SBW53.out.trans ((below_gw W53 z32).mono SBW53.out.size)).mono BR.out.size))⟩
                            case measure => simp [intOf]; omega
                          · have d9 : decide (pa ≤ md) = false := by simp; omega
                            simp only [d9] at LX
                            have HLX := Lib.hid LX
                            clear LX d9
                            go_wp2_with fail
                            refine (Calls.grown (HLX.out _)).mono ?_
                            rintro e w1 ⟨rfl, z32, rfl⟩
                            go_wp2_with fail
                            go_roundw
                            case rel => exact ⟨md, y, rfl, rfl, ⟨by omega, by omega, by omega, by omega⟩, Lib.hid (BR.out.trans ((SBW53.out.trans ((below_gw W53 z32).mono SBW53.out.size)).mono BR.out.size))⟩
                            case measure => simp [intOf]; omega
                        · obtain rfl : (pa - 1) = x := by omega
                          obtain rfl : (pa - 1) = y := by omega
                          clear hxy i0 i1 i2 i3
                          have SBwr := Lib.hid (BR.out)
                          have Ztwr := Lib.hid ((SBwr.out.block _ (Array.getElem?_eq_some_iff.1 ZtW52.out).1).trans ZtW52.out)
                          have Zxwr := Lib.hid ((SBwr.out.block _ (Array.getElem?_eq_some_iff.1 ZxW52.out).1).trans ZxW52.out)
                          have Zmwr := Lib.hid ((SBwr.out.block _ (Array.getElem?_eq_some_iff.1 ZmW52.out).1).trans ZmW52.out)
                          have Zrwr := Lib.hid ((SBwr.out.block _ (Array.getElem?_eq_some_iff.1 ZrW52.out).1).trans ZrW52.out)
                          have Zpwr := Lib.hid ((SBwr.out.block _ (Array.getElem?_eq_some_iff.1 ZpW52.out).1).trans ZpW52.out)
                          have Zqwr := Lib.hid ((SBwr.out.block _ (Array.getElem?_eq_some_iff.1 ZqW52.out).1).trans ZqW52.out)
                          have Zbwr := Lib.hid ((SBwr.out.block _ (Array.getElem?_eq_some_iff.1 ZbW52.out).1).trans ZbW52.out)
                          have Zcwr := Lib.hid ((SBwr.out.block _ (Array.getElem?_eq_some_iff.1 ZcW52.out).1).trans ZcW52.out)
                          have Zdwr := Lib.hid ((SBwr.out.block _ (Array.getElem?_eq_some_iff.1 ZdW52.out).1).trans ZdW52.out)
                          have Zewr := Lib.hid ((SBwr.out.block _ (Array.getElem?_eq_some_iff.1 ZeW52.out).1).trans ZeW52.out)
                          have Zfwr := Lib.hid ((SBwr.out.block _ (Array.getElem?_eq_some_iff.1 ZfW52.out).1).trans ZfW52.out)
                          have Zgwr := Lib.hid ((SBwr.out.block _ (Array.getElem?_eq_some_iff.1 ZgW52.out).1).trans ZgW52.out)
                          have HBwr := Lib.hid (thru SBwr.out HBW52.out)
                          have Swr := Lib.hid (S52.out.trans (SBwr.out.mono S52.out.size))
                          have et0wr : wr.cell? ⟨w.heap.size, 0, none⟩ = some (.slice t.aT t.nT t.cT) := cell_of_block Ztwr.out 0 (by simp)
                          have et1wr : wr.cell? ⟨w.heap.size, 1, none⟩ = some (.slice t.aS t.nS t.cS) := cell_of_block Ztwr.out 1 (by simp)
                          have et2wr : wr.cell? ⟨w.heap.size, 2, none⟩ = some (.slice t.H.a t.H.n t.H.c) := cell_of_block Ztwr.out 2 (by simp)
                          have et3wr : wr.cell? ⟨w.heap.size, 3, none⟩ = some (.slice t.R.a t.R.n t.R.c) := cell_of_block Ztwr.out 3 (by simp)
                          have ltwr := (Array.getElem?_eq_some_iff.1 Ztwr.out).1
                          have em0wr : wr.cell? ⟨w.heap.size + 1 + 1, 0, none⟩ = some (.int .i64 tlo) := cell_of_block Zmwr.out 0 (by simp)
                          have em1wr : wr.cell? ⟨w.heap.size + 1 + 1, 1, none⟩ = some (.int .i64 thi) := cell_of_block Zmwr.out 1 (by simp)
                          have lmwr := (Array.getElem?_eq_some_iff.1 Zmwr.out).1
                          have nlt2 : ¬ pa - 1 < pa - 1 := by omega
                          go_wp2_with fail
                          refine (Calls.grown (EV'.out _ (Swr.out) (pa - 1) p0 p1)).mono ?_
                          rintro e w1 ⟨rfl, z61, rfl⟩
                          go_upto_region 29 with (fail)
                          obtain ⟨W71, hW71⟩ : ∃ W71, (((gw wr z61)).alloc (.cells #[.int .i64 (SL (pa - 1)).n, .int .i64 (SL (pa - 1)).d] 35)).alloc (.cells #[.int .i64 (SH (pa - 1)).n, .int .i64 (SH (pa - 1)).d] 35) = W71 := ⟨_, rfl⟩
                          have hbW71 : Below wr.heap.size wr W71 := by rw [← hW71]; exact ((below_gw wr z61).alloc (by simp [gw_size]) _).alloc (by simp [gw_size] <;> omega) _
                          have ZtW71 := Lib.hid ((hbW71.block _ (Array.getElem?_eq_some_iff.1 Ztwr.out).1).trans Ztwr.out)
                          have ZxW71 := Lib.hid ((hbW71.block _ (Array.getElem?_eq_some_iff.1 Zxwr.out).1).trans Zxwr.out)
                          have ZmW71 := Lib.hid ((hbW71.block _ (Array.getElem?_eq_some_iff.1 Zmwr.out).1).trans Zmwr.out)
                          have ZrW71 := Lib.hid ((hbW71.block _ (Array.getElem?_eq_some_iff.1 Zrwr.out).1).trans Zrwr.out)
                          have ZpW71 := Lib.hid ((hbW71.block _ (Array.getElem?_eq_some_iff.1 Zpwr.out).1).trans Zpwr.out)
                          have ZqW71 := Lib.hid ((hbW71.block _ (Array.getElem?_eq_some_iff.1 Zqwr.out).1).trans Zqwr.out)
                          have ZbW71 := Lib.hid ((hbW71.block _ (Array.getElem?_eq_some_iff.1 Zbwr.out).1).trans Zbwr.out)
                          have ZcW71 := Lib.hid ((hbW71.block _ (Array.getElem?_eq_some_iff.1 Zcwr.out).1).trans Zcwr.out)
                          have ZdW71 := Lib.hid ((hbW71.block _ (Array.getElem?_eq_some_iff.1 Zdwr.out).1).trans Zdwr.out)
                          have ZeW71 := Lib.hid ((hbW71.block _ (Array.getElem?_eq_some_iff.1 Zewr.out).1).trans Zewr.out)
                          have ZfW71 := Lib.hid ((hbW71.block _ (Array.getElem?_eq_some_iff.1 Zfwr.out).1).trans Zfwr.out)
                          have ZgW71 := Lib.hid ((hbW71.block _ (Array.getElem?_eq_some_iff.1 Zgwr.out).1).trans Zgwr.out)
                          have zfW71 : W71.heap[wr.heap.size + z61.bs.size]? = some (.cells #[.int .i64 (SL (pa - 1)).n, .int .i64 (SL (pa - 1)).d] 35 (0, 0)) := by rw [← hW71]; exact alloc_keep (alloc_at (by simp [gw_size]))
                          have ZfW71 := Lib.hid zfW71; clear zfW71
                          have zgW71 : W71.heap[wr.heap.size + z61.bs.size + 1]? = some (.cells #[.int .i64 (SH (pa - 1)).n, .int .i64 (SH (pa - 1)).d] 35 (0, 0)) := by rw [← hW71]; exact alloc_at (by simp [gw_size] <;> omega)
                          have ZgW71 := Lib.hid zgW71; clear zgW71
                          have HBW71 := Lib.hid (thru hbW71 HBwr.out)
                          have SBW71 := Lib.hid hbW71; clear hbW71
                          have HWW71 := Lib.hid hW71; clear hW71
                          rw [HWW71.out]
                          clear et0wr et1wr et2wr et3wr em0wr em1wr
                          have S71 := Lib.hid (Swr.out.trans (SBW71.out.mono Swr.out.size))
                          have eq0W71 : W71.cell? ⟨Bq, 0, none⟩ = some (.int .i64 (clm hi)) := cell_of_block ZqW71.out 0 (by simp)
                          have eq1W71 : W71.cell? ⟨Bq, 1, none⟩ = some (.int .i64 1) := cell_of_block ZqW71.out 1 (by simp)
                          have lqW71 := (Array.getElem?_eq_some_iff.1 ZqW71.out).1
                          have ef0W71 : W71.cell? ⟨wr.heap.size + z61.bs.size, 0, none⟩ = some (.int .i64 (SL (pa - 1)).n) := cell_of_block ZfW71.out 0 (by simp)
                          have ef1W71 : W71.cell? ⟨wr.heap.size + z61.bs.size, 1, none⟩ = some (.int .i64 (SL (pa - 1)).d) := cell_of_block ZfW71.out 1 (by simp)
                          have lfW71 := (Array.getElem?_eq_some_iff.1 ZfW71.out).1
                          have er0W71 : W71.cell? ⟨w.heap.size + 1 + 1 + 1, 0, none⟩ = some (.int .i64 0) := cell_of_block ZrW71.out 0 (by simp)
                          have fr0W71 := frozen_of_block ZrW71.out 0
                          have er1W71 : W71.cell? ⟨w.heap.size + 1 + 1 + 1, 1, none⟩ = some (.int .i64 0) := cell_of_block ZrW71.out 1 (by simp)
                          have fr1W71 := frozen_of_block ZrW71.out 1
                          have lrW71 := (Array.getElem?_eq_some_iff.1 ZrW71.out).1
                          have LY := LD.out (pa - 1) p0 p1
                          by_cases a2 : pa - 1 < s1
                          · have d7 : decide (pa - 1 < s1) = true := by simp [a2]
                            cases v8 : ltF (SL (pa - 1)) ⟨clm hi, 1⟩ with
                            | false =>
                              have eh := HEH.out
                              rw [if_neg (fun h => by rw [v8] at h; cases h.2)] at eh
                              simp only [v8] at LY
                              have HLY := Lib.hid LY
                              have EH2 := Lib.hid eh
                              clear LY v8 a2 eh
                              go_wp2_with fail
                              refine (Calls.grown (HLY.out _)).mono ?_
                              rintro e w1 ⟨rfl, z62, rfl⟩
                              go_wp2_with fail
                              refine bodyPost_ret (v := .tuple #[.agg #[.int .i64 fr, .int .i64 (pa - 1)], .int .i64 0]) (by simp [results, Try.results27, go_sem, *]) rfl ⟨by rw [← HRES.out, EL2.out, EH2.out], ?_⟩
                              exact ((HBW71.out.gw z62).setCell (by simp <;> omega) _).setCell (by simp <;> omega) _
                            | true =>
                              have eh := HEH.out
                              rw [if_pos ⟨a2, v8⟩] at eh
                              simp only [v8] at LY
                              have HLY := Lib.hid LY
                              have EH2 := Lib.hid eh
                              clear LY v8 a2 eh
                              go_wp2_with fail
                              refine (Calls.grown (HLY.out _)).mono ?_
                              rintro e w1 ⟨rfl, z62, rfl⟩
                              go_wp2_with fail
                              refine bodyPost_ret (v := .tuple #[.agg #[.int .i64 fr, .int .i64 (pa - 1 + 1)], .int .i64 0]) (by simp [results, Try.results27, go_sem, *]) rfl ⟨by rw [← HRES.out, EL2.out, EH2.out, show pa - 1 + 1 = pa by omega], ?_⟩
                              exact ((HBW71.out.gw z62).setCell (by simp <;> omega) _).setCell (by simp <;> omega) _
                          · have d7 : decide (pa - 1 < s1) = false := by simp; omega
                            have eh := HEH.out
                            rw [if_neg (fun h => a2 h.1)] at eh
                            have EH2 := Lib.hid eh
                            clear a2 LY eh
                            go_wp2_with fail
                            refine bodyPost_ret (v := .tuple #[.agg #[.int .i64 fr, .int .i64 (pa - 1)], .int .i64 0]) (by simp [results, Try.results27, go_sem, *]) rfl ⟨by rw [← HRES.out, EL2.out, EH2.out], ?_⟩
                            exact ((HBW71.out).setCell (by simp <;> omega) _).setCell (by simp <;> omega) _
                    | true =>
                      have el := HEL.out
                      rw [if_pos ⟨a1, v7⟩] at el
                      simp only [v7] at LX
                      have HLX := Lib.hid LX
                      have EL2 := Lib.hid el
                      clear LX v7 a1 el
                      go_wp2_with fail
                      refine (Calls.grown (HLX.out _)).mono ?_
                      rintro e w1 ⟨rfl, z42, rfl⟩
                      go_upto_region 21 with (fail)
                      obtain ⟨W52, hW52⟩ : ∃ W52, gw W51 z42 = W52 := ⟨_, rfl⟩
                      have hbW52 : Below W51.heap.size W51 W52 := by rw [← hW52]; exact below_gw W51 z42
                      have ZtW52 := Lib.hid ((hbW52.block _ (Array.getElem?_eq_some_iff.1 ZtW51.out).1).trans ZtW51.out)
                      have ZxW52 := Lib.hid ((hbW52.block _ (Array.getElem?_eq_some_iff.1 ZxW51.out).1).trans ZxW51.out)
                      have ZmW52 := Lib.hid ((hbW52.block _ (Array.getElem?_eq_some_iff.1 ZmW51.out).1).trans ZmW51.out)
                      have ZrW52 := Lib.hid ((hbW52.block _ (Array.getElem?_eq_some_iff.1 ZrW51.out).1).trans ZrW51.out)
                      have ZpW52 := Lib.hid ((hbW52.block _ (Array.getElem?_eq_some_iff.1 ZpW51.out).1).trans ZpW51.out)
                      have ZqW52 := Lib.hid ((hbW52.block _ (Array.getElem?_eq_some_iff.1 ZqW51.out).1).trans ZqW51.out)
                      have ZbW52 := Lib.hid ((hbW52.block _ (Array.getElem?_eq_some_iff.1 ZbW51.out).1).trans ZbW51.out)
                      have ZcW52 := Lib.hid ((hbW52.block _ (Array.getElem?_eq_some_iff.1 ZcW51.out).1).trans ZcW51.out)
                      have ZdW52 := Lib.hid ((hbW52.block _ (Array.getElem?_eq_some_iff.1 ZdW51.out).1).trans ZdW51.out)
                      have ZeW52 := Lib.hid ((hbW52.block _ (Array.getElem?_eq_some_iff.1 ZeW51.out).1).trans ZeW51.out)
                      have ZfW52 := Lib.hid ((hbW52.block _ (Array.getElem?_eq_some_iff.1 ZfW51.out).1).trans ZfW51.out)
                      have ZgW52 := Lib.hid ((hbW52.block _ (Array.getElem?_eq_some_iff.1 ZgW51.out).1).trans ZgW51.out)
                      have HBW52 := Lib.hid (thru hbW52 HBW51.out)
                      have SBW52 := Lib.hid hbW52; clear hbW52
                      have HWW52 := Lib.hid hW52; clear hW52
                      rw [HWW52.out]
                      clear ep0W51 ep1W51 eg0W51 eg1W51
                      have S52 := Lib.hid (S51.out.trans (SBW52.out.mono S51.out.size))
                      go_wp2_with fail
                      go_loopw [23, 24] (fun u v wr => ∃ x y : Int, u = .int .i64 x ∧ v = .int .i64 y ∧ (s0 ≤ x ∧ x ≤ (pa - 1) ∧ (pa - 1) ≤ y ∧ y ≤ s1) ∧ Hid (Below W52.heap.size W52 wr)) (fun u v _ => (intOf v - intOf u).toNat)
                      case atStart => exact ⟨s0, s1, rfl, rfl, ⟨Int.le_refl _, p0, p1, Int.le_refl _⟩, Lib.hid (Below.refl _ _)⟩
                      case round =>
                        obtain ⟨x, y, rfl, rfl, ⟨i0, i1, i2, i3⟩, BR⟩ := hrel
                        by_cases hxy : x < y
                        · have hxy2 : x < y := hxy
                          have SBwr := Lib.hid (BR.out)
                          have Ztwr := Lib.hid ((SBwr.out.block _ (Array.getElem?_eq_some_iff.1 ZtW52.out).1).trans ZtW52.out)
                          have Zxwr := Lib.hid ((SBwr.out.block _ (Array.getElem?_eq_some_iff.1 ZxW52.out).1).trans ZxW52.out)
                          have Zmwr := Lib.hid ((SBwr.out.block _ (Array.getElem?_eq_some_iff.1 ZmW52.out).1).trans ZmW52.out)
                          have Zrwr := Lib.hid ((SBwr.out.block _ (Array.getElem?_eq_some_iff.1 ZrW52.out).1).trans ZrW52.out)
                          have Zpwr := Lib.hid ((SBwr.out.block _ (Array.getElem?_eq_some_iff.1 ZpW52.out).1).trans ZpW52.out)
                          have Zqwr := Lib.hid ((SBwr.out.block _ (Array.getElem?_eq_some_iff.1 ZqW52.out).1).trans ZqW52.out)
                          have Zbwr := Lib.hid ((SBwr.out.block _ (Array.getElem?_eq_some_iff.1 ZbW52.out).1).trans ZbW52.out)
                          have Zcwr := Lib.hid ((SBwr.out.block _ (Array.getElem?_eq_some_iff.1 ZcW52.out).1).trans ZcW52.out)
                          have Zdwr := Lib.hid ((SBwr.out.block _ (Array.getElem?_eq_some_iff.1 ZdW52.out).1).trans ZdW52.out)
                          have Zewr := Lib.hid ((SBwr.out.block _ (Array.getElem?_eq_some_iff.1 ZeW52.out).1).trans ZeW52.out)
                          have Zfwr := Lib.hid ((SBwr.out.block _ (Array.getElem?_eq_some_iff.1 ZfW52.out).1).trans ZfW52.out)
                          have Zgwr := Lib.hid ((SBwr.out.block _ (Array.getElem?_eq_some_iff.1 ZgW52.out).1).trans ZgW52.out)
                          have HBwr := Lib.hid (thru SBwr.out HBW52.out)
                          have Swr := Lib.hid (S52.out.trans (SBwr.out.mono S52.out.size))
                          obtain ⟨md, hmd⟩ : ∃ m, (x + y + 1) / 2 = m := ⟨_, rfl⟩
                          have md0 : x < md ∧ md ≤ y := by omega
                          have xy0 : 0 ≤ x + y + 1 ∧ x + y + 1 ≤ 20001 := by omega
                          have et0wr : wr.cell? ⟨w.heap.size, 0, none⟩ = some (.slice t.aT t.nT t.cT) := cell_of_block Ztwr.out 0 (by simp)
                          have et1wr : wr.cell? ⟨w.heap.size, 1, none⟩ = some (.slice t.aS t.nS t.cS) := cell_of_block Ztwr.out 1 (by simp)
                          have et2wr : wr.cell? ⟨w.heap.size, 2, none⟩ = some (.slice t.H.a t.H.n t.H.c) := cell_of_block Ztwr.out 2 (by simp)
                          have et3wr : wr.cell? ⟨w.heap.size, 3, none⟩ = some (.slice t.R.a t.R.n t.R.c) := cell_of_block Ztwr.out 3 (by simp)
                          have ltwr := (Array.getElem?_eq_some_iff.1 Ztwr.out).1
                          have em0wr : wr.cell? ⟨w.heap.size + 1 + 1, 0, none⟩ = some (.int .i64 tlo) := cell_of_block Zmwr.out 0 (by simp)
                          have em1wr : wr.cell? ⟨w.heap.size + 1 + 1, 1, none⟩ = some (.int .i64 thi) := cell_of_block Zmwr.out 1 (by simp)
                          have lmwr := (Array.getElem?_eq_some_iff.1 Zmwr.out).1
                          go_wp2_with fail
                          refine (Calls.grown (EV'.out _ (Swr.out) md (by omega) (by omega))).mono ?_
                          rintro e w1 ⟨rfl, z31, rfl⟩
                          go_upto_region 25 with (fail)
                          obtain ⟨W53, hW53⟩ : ∃ W53, (((gw wr z31)).alloc (.cells #[.int .i64 (SL md).n, .int .i64 (SL md).d] 35)).alloc (.cells #[.int .i64 (SH md).n, .int .i64 (SH md).d] 35) = W53 := ⟨_, rfl⟩
                          have hbW53 : Below wr.heap.size wr W53 := by rw [← hW53]; exact ((below_gw wr z31).alloc (by simp [gw_size]) _).alloc (by simp [gw_size] <;> omega) _
                          have ZtW53 := Lib.hid ((hbW53.block _ (Array.getElem?_eq_some_iff.1 Ztwr.out).1).trans Ztwr.out)
                          have ZxW53 := Lib.hid ((hbW53.block _ (Array.getElem?_eq_some_iff.1 Zxwr.out).1).trans Zxwr.out)
                          have ZmW53 := Lib.hid ((hbW53.block _ (Array.getElem?_eq_some_iff.1 Zmwr.out).1).trans Zmwr.out)
                          have ZrW53 := Lib.hid ((hbW53.block _ (Array.getElem?_eq_some_iff.1 Zrwr.out).1).trans Zrwr.out)
                          have ZpW53 := Lib.hid ((hbW53.block _ (Array.getElem?_eq_some_iff.1 Zpwr.out).1).trans Zpwr.out)
                          have ZqW53 := Lib.hid ((hbW53.block _ (Array.getElem?_eq_some_iff.1 Zqwr.out).1).trans Zqwr.out)
                          have ZbW53 := Lib.hid ((hbW53.block _ (Array.getElem?_eq_some_iff.1 Zbwr.out).1).trans Zbwr.out)
                          have ZcW53 := Lib.hid ((hbW53.block _ (Array.getElem?_eq_some_iff.1 Zcwr.out).1).trans Zcwr.out)
                          have ZdW53 := Lib.hid ((hbW53.block _ (Array.getElem?_eq_some_iff.1 Zdwr.out).1).trans Zdwr.out)
                          have ZeW53 := Lib.hid ((hbW53.block _ (Array.getElem?_eq_some_iff.1 Zewr.out).1).trans Zewr.out)
                          have ZfW53 := Lib.hid ((hbW53.block _ (Array.getElem?_eq_some_iff.1 Zfwr.out).1).trans Zfwr.out)
                          have ZgW53 := Lib.hid ((hbW53.block _ (Array.getElem?_eq_some_iff.1 Zgwr.out).1).trans Zgwr.out)
                          have zfW53 : W53.heap[wr.heap.size + z31.bs.size]? = some (.cells #[.int .i64 (SL md).n, .int .i64 (SL md).d] 35 (0, 0)) := by rw [← hW53]; exact alloc_keep (alloc_at (by simp [gw_size]))
                          have ZfW53 := Lib.hid zfW53; clear zfW53
                          have zgW53 : W53.heap[wr.heap.size + z31.bs.size + 1]? = some (.cells #[.int .i64 (SH md).n, .int .i64 (SH md).d] 35 (0, 0)) := by rw [← hW53]; exact alloc_at (by simp [gw_size] <;> omega)
                          have ZgW53 := Lib.hid zgW53; clear zgW53
                          have HBW53 := Lib.hid (thru hbW53 HBwr.out)
                          have SBW53 := Lib.hid hbW53; clear hbW53
                          have HWW53 := Lib.hid hW53; clear hW53
                          rw [HWW53.out]
                          clear et0wr et1wr et2wr et3wr em0wr em1wr
                          have S53 := Lib.hid (Swr.out.trans (SBW53.out.mono Swr.out.size))
                          have eq0W53 : W53.cell? ⟨Bq, 0, none⟩ = some (.int .i64 (clm hi)) := cell_of_block ZqW53.out 0 (by simp)
                          have eq1W53 : W53.cell? ⟨Bq, 1, none⟩ = some (.int .i64 1) := cell_of_block ZqW53.out 1 (by simp)
                          have lqW53 := (Array.getElem?_eq_some_iff.1 ZqW53.out).1
                          have ef0W53 : W53.cell? ⟨wr.heap.size + z31.bs.size, 0, none⟩ = some (.int .i64 (SL md).n) := cell_of_block ZfW53.out 0 (by simp)
                          have ef1W53 : W53.cell? ⟨wr.heap.size + z31.bs.size, 1, none⟩ = some (.int .i64 (SL md).d) := cell_of_block ZfW53.out 1 (by simp)
                          have lfW53 := (Array.getElem?_eq_some_iff.1 ZfW53.out).1
                          have D := DB.out md (by omega) (by omega)
                          have LX := LB.out md (by omega) (by omega)
                          simp only [D] at LX
                          clear D
                          by_cases hd : pa ≤ md
                          · have d9 : decide (pa ≤ md) = true := by simp [hd]
                            simp only [d9] at LX
                            have HLX := Lib.hid LX
                            clear LX d9
                            go_wp2_with fail
                            refine (Calls.grown (HLX.out _)).mono ?_
                            rintro e w1 ⟨rfl, z32, rfl⟩
                            go_wp2_with fail
                            go_roundw
                            case rel => exact ⟨x, md - 1, rfl, rfl, ⟨by omega, by omega, by omega, by omega⟩, Lib.hid (BR.out.trans ((SBW53.out.trans ((below_gw W53 z32).mono SBW53.out.size)).mono BR.out.size))⟩
                            case measure => simp [intOf]; omega
                          · have d9 : decide (pa ≤ md) = false := by simp; omega
                            simp only [d9] at LX
                            have HLX := Lib.hid LX
                            clear LX d9
                            go_wp2_with fail
                            refine (Calls.grown (HLX.out _)).mono ?_
                            rintro e w1 ⟨rfl, z32, rfl⟩
                            go_wp2_with fail
                            go_roundw
                            case rel => exact ⟨md, y, rfl, rfl, ⟨by omega, by omega, by omega, by omega⟩, Lib.hid (BR.out.trans ((SBW53.out.trans ((below_gw W53 z32).mono SBW53.out.size)).mono BR.out.size))⟩
                            case measure => simp [intOf]; omega
                        · obtain rfl : (pa - 1) = x := by omega
                          obtain rfl : (pa - 1) = y := by omega
                          clear hxy i0 i1 i2 i3
                          have SBwr := Lib.hid (BR.out)
                          have Ztwr := Lib.hid ((SBwr.out.block _ (Array.getElem?_eq_some_iff.1 ZtW52.out).1).trans ZtW52.out)
                          have Zxwr := Lib.hid ((SBwr.out.block _ (Array.getElem?_eq_some_iff.1 ZxW52.out).1).trans ZxW52.out)
                          have Zmwr := Lib.hid ((SBwr.out.block _ (Array.getElem?_eq_some_iff.1 ZmW52.out).1).trans ZmW52.out)
                          have Zrwr := Lib.hid ((SBwr.out.block _ (Array.getElem?_eq_some_iff.1 ZrW52.out).1).trans ZrW52.out)
                          have Zpwr := Lib.hid ((SBwr.out.block _ (Array.getElem?_eq_some_iff.1 ZpW52.out).1).trans ZpW52.out)
                          have Zqwr := Lib.hid ((SBwr.out.block _ (Array.getElem?_eq_some_iff.1 ZqW52.out).1).trans ZqW52.out)
                          have Zbwr := Lib.hid ((SBwr.out.block _ (Array.getElem?_eq_some_iff.1 ZbW52.out).1).trans ZbW52.out)
                          have Zcwr := Lib.hid ((SBwr.out.block _ (Array.getElem?_eq_some_iff.1 ZcW52.out).1).trans ZcW52.out)
                          have Zdwr := Lib.hid ((SBwr.out.block _ (Array.getElem?_eq_some_iff.1 ZdW52.out).1).trans ZdW52.out)
                          have Zewr := Lib.hid ((SBwr.out.block _ (Array.getElem?_eq_some_iff.1 ZeW52.out).1).trans ZeW52.out)
                          have Zfwr := Lib.hid ((SBwr.out.block _ (Array.getElem?_eq_some_iff.1 ZfW52.out).1).trans ZfW52.out)
                          have Zgwr := Lib.hid ((SBwr.out.block _ (Array.getElem?_eq_some_iff.1 ZgW52.out).1).trans ZgW52.out)
                          have HBwr := Lib.hid (thru SBwr.out HBW52.out)
                          have Swr := Lib.hid (S52.out.trans (SBwr.out.mono S52.out.size))
                          have et0wr : wr.cell? ⟨w.heap.size, 0, none⟩ = some (.slice t.aT t.nT t.cT) := cell_of_block Ztwr.out 0 (by simp)
                          have et1wr : wr.cell? ⟨w.heap.size, 1, none⟩ = some (.slice t.aS t.nS t.cS) := cell_of_block Ztwr.out 1 (by simp)
                          have et2wr : wr.cell? ⟨w.heap.size, 2, none⟩ = some (.slice t.H.a t.H.n t.H.c) := cell_of_block Ztwr.out 2 (by simp)
                          have et3wr : wr.cell? ⟨w.heap.size, 3, none⟩ = some (.slice t.R.a t.R.n t.R.c) := cell_of_block Ztwr.out 3 (by simp)
                          have ltwr := (Array.getElem?_eq_some_iff.1 Ztwr.out).1
                          have em0wr : wr.cell? ⟨w.heap.size + 1 + 1, 0, none⟩ = some (.int .i64 tlo) := cell_of_block Zmwr.out 0 (by simp)
                          have em1wr : wr.cell? ⟨w.heap.size + 1 + 1, 1, none⟩ = some (.int .i64 thi) := cell_of_block Zmwr.out 1 (by simp)
                          have lmwr := (Array.getElem?_eq_some_iff.1 Zmwr.out).1
                          have nlt2 : ¬ pa - 1 < pa - 1 := by omega
                          go_wp2_with fail
                          refine (Calls.grown (EV'.out _ (Swr.out) (pa - 1) p0 p1)).mono ?_
                          rintro e w1 ⟨rfl, z61, rfl⟩
                          go_upto_region 29 with (fail)
                          obtain ⟨W71, hW71⟩ : ∃ W71, (((gw wr z61)).alloc (.cells #[.int .i64 (SL (pa - 1)).n, .int .i64 (SL (pa - 1)).d] 35)).alloc (.cells #[.int .i64 (SH (pa - 1)).n, .int .i64 (SH (pa - 1)).d] 35) = W71 := ⟨_, rfl⟩
                          have hbW71 : Below wr.heap.size wr W71 := by rw [← hW71]; exact ((below_gw wr z61).alloc (by simp [gw_size]) _).alloc (by simp [gw_size] <;> omega) _
                          have ZtW71 := Lib.hid ((hbW71.block _ (Array.getElem?_eq_some_iff.1 Ztwr.out).1).trans Ztwr.out)
                          have ZxW71 := Lib.hid ((hbW71.block _ (Array.getElem?_eq_some_iff.1 Zxwr.out).1).trans Zxwr.out)
                          have ZmW71 := Lib.hid ((hbW71.block _ (Array.getElem?_eq_some_iff.1 Zmwr.out).1).trans Zmwr.out)
                          have ZrW71 := Lib.hid ((hbW71.block _ (Array.getElem?_eq_some_iff.1 Zrwr.out).1).trans Zrwr.out)
                          have ZpW71 := Lib.hid ((hbW71.block _ (Array.getElem?_eq_some_iff.1 Zpwr.out).1).trans Zpwr.out)
                          have ZqW71 := Lib.hid ((hbW71.block _ (Array.getElem?_eq_some_iff.1 Zqwr.out).1).trans Zqwr.out)
                          have ZbW71 := Lib.hid ((hbW71.block _ (Array.getElem?_eq_some_iff.1 Zbwr.out).1).trans Zbwr.out)
                          have ZcW71 := Lib.hid ((hbW71.block _ (Array.getElem?_eq_some_iff.1 Zcwr.out).1).trans Zcwr.out)
                          have ZdW71 := Lib.hid ((hbW71.block _ (Array.getElem?_eq_some_iff.1 Zdwr.out).1).trans Zdwr.out)
                          have ZeW71 := Lib.hid ((hbW71.block _ (Array.getElem?_eq_some_iff.1 Zewr.out).1).trans Zewr.out)
                          have ZfW71 := Lib.hid ((hbW71.block _ (Array.getElem?_eq_some_iff.1 Zfwr.out).1).trans Zfwr.out)
                          have ZgW71 := Lib.hid ((hbW71.block _ (Array.getElem?_eq_some_iff.1 Zgwr.out).1).trans Zgwr.out)
                          have zfW71 : W71.heap[wr.heap.size + z61.bs.size]? = some (.cells #[.int .i64 (SL (pa - 1)).n, .int .i64 (SL (pa - 1)).d] 35 (0, 0)) := by rw [← hW71]; exact alloc_keep (alloc_at (by simp [gw_size]))
                          have ZfW71 := Lib.hid zfW71; clear zfW71
                          have zgW71 : W71.heap[wr.heap.size + z61.bs.size + 1]? = some (.cells #[.int .i64 (SH (pa - 1)).n, .int .i64 (SH (pa - 1)).d] 35 (0, 0)) := by rw [← hW71]; exact alloc_at (by simp [gw_size] <;> omega)
                          have ZgW71 := Lib.hid zgW71; clear zgW71
                          have HBW71 := Lib.hid (thru hbW71 HBwr.out)
                          have SBW71 := Lib.hid hbW71; clear hbW71
                          have HWW71 := Lib.hid hW71; clear hW71
                          rw [HWW71.out]
                          clear et0wr et1wr et2wr et3wr em0wr em1wr
                          have S71 := Lib.hid (Swr.out.trans (SBW71.out.mono Swr.out.size))
                          have eq0W71 : W71.cell? ⟨Bq, 0, none⟩ = some (.int .i64 (clm hi)) := cell_of_block ZqW71.out 0 (by simp)
                          have eq1W71 : W71.cell? ⟨Bq, 1, none⟩ = some (.int .i64 1) := cell_of_block ZqW71.out 1 (by simp)
                          have lqW71 := (Array.getElem?_eq_some_iff.1 ZqW71.out).1
                          have ef0W71 : W71.cell? ⟨wr.heap.size + z61.bs.size, 0, none⟩ = some (.int .i64 (SL (pa - 1)).n) := cell_of_block ZfW71.out 0 (by simp)
                          have ef1W71 : W71.cell? ⟨wr.heap.size + z61.bs.size, 1, none⟩ = some (.int .i64 (SL (pa - 1)).d) := cell_of_block ZfW71.out 1 (by simp)
                          have lfW71 := (Array.getElem?_eq_some_iff.1 ZfW71.out).1
                          have er0W71 : W71.cell? ⟨w.heap.size + 1 + 1 + 1, 0, none⟩ = some (.int .i64 0) := cell_of_block ZrW71.out 0 (by simp)
                          have fr0W71 := frozen_of_block ZrW71.out 0
                          have er1W71 : W71.cell? ⟨w.heap.size + 1 + 1 + 1, 1, none⟩ = some (.int .i64 0) := cell_of_block ZrW71.out 1 (by simp)
                          have fr1W71 := frozen_of_block ZrW71.out 1
                          have lrW71 := (Array.getElem?_eq_some_iff.1 ZrW71.out).1
                          have LY := LD.out (pa - 1) p0 p1
                          by_cases a2 : pa - 1 < s1
                          · have d7 : decide (pa - 1 < s1) = true := by simp [a2]
                            cases v8 : ltF (SL (pa - 1)) ⟨clm hi, 1⟩ with
                            | false =>
                              have eh := HEH.out
                              rw [if_neg (fun h => by rw [v8] at h; cases h.2)] at eh
                              simp only [v8] at LY
                              have HLY := Lib.hid LY
                              have EH2 := Lib.hid eh
                              clear LY v8 a2 eh
                              go_wp2_with fail
                              refine (Calls.grown (HLY.out _)).mono ?_
                              rintro e w1 ⟨rfl, z62, rfl⟩
                              go_wp2_with fail
                              refine bodyPost_ret (v := .tuple #[.agg #[.int .i64 (fr - 1), .int .i64 (pa - 1)], .int .i64 0]) (by simp [results, Try.results27, go_sem, *]) rfl ⟨by rw [← HRES.out, EL2.out, EH2.out], ?_⟩
                              exact ((HBW71.out.gw z62).setCell (by simp <;> omega) _).setCell (by simp <;> omega) _
                            | true =>
                              have eh := HEH.out
                              rw [if_pos ⟨a2, v8⟩] at eh
                              simp only [v8] at LY
                              have HLY := Lib.hid LY
                              have EH2 := Lib.hid eh
                              clear LY v8 a2 eh
                              go_wp2_with fail
                              refine (Calls.grown (HLY.out _)).mono ?_
                              rintro e w1 ⟨rfl, z62, rfl⟩
                              go_wp2_with fail
                              refine bodyPost_ret (v := .tuple #[.agg #[.int .i64 (fr - 1), .int .i64 (pa - 1 + 1)], .int .i64 0]) (by simp [results, Try.results27, go_sem, *]) rfl ⟨by rw [← HRES.out, EL2.out, EH2.out, show pa - 1 + 1 = pa by omega], ?_⟩
                              exact ((HBW71.out.gw z62).setCell (by simp <;> omega) _).setCell (by simp <;> omega) _
                          · have d7 : decide (pa - 1 < s1) = false := by simp; omega
                            have eh := HEH.out
                            rw [if_neg (fun h => a2 h.1)] at eh
                            have EH2 := Lib.hid eh
                            clear a2 LY eh
                            go_wp2_with fail
                            refine bodyPost_ret (v := .tuple #[.agg #[.int .i64 (fr - 1), .int .i64 (pa - 1)], .int .i64 0]) (by simp [results, Try.results27, go_sem, *]) rfl ⟨by rw [← HRES.out, EL2.out, EH2.out], ?_⟩
                            exact ((HBW71.out).setCell (by simp <;> omega) _).setCell (by simp <;> omega) _
                  · have d6 : decide (s0 < fr) = false := by simp; omega
                    have el := HEL.out
                    rw [if_neg (fun h => a1 h.1)] at el
                    have EL2 := Lib.hid el
                    clear a1 LX el
                    go_upto_region 21 with (fail)
                    obtain ⟨W52, hW52⟩ : ∃ W52, W51 = W52 := ⟨_, rfl⟩
                    have hbW52 : Below W51.heap.size W51 W52 := by rw [← hW52]; exact Below.refl _ W51
                    have ZtW52 := Lib.hid ((hbW52.block _ (Array.getElem?_eq_some_iff.1 ZtW51.out).1).trans ZtW51.out)
                    have ZxW52 := Lib.hid ((hbW52.block _ (Array.getElem?_eq_some_iff.1 ZxW51.out).1).trans ZxW51.out)
                    have ZmW52 := Lib.hid ((hbW52.block _ (Array.getElem?_eq_some_iff.1 ZmW51.out).1).trans ZmW51.out)
                    have ZrW52 := Lib.hid ((hbW52.block _ (Array.getElem?_eq_some_iff.1 ZrW51.out).1).trans ZrW51.out)
                    have ZpW52 := Lib.hid ((hbW52.block _ (Array.getElem?_eq_some_iff.1 ZpW51.out).1).trans ZpW51.out)
                    have ZqW52 := Lib.hid ((hbW52.block _ (Array.getElem?_eq_some_iff.1 ZqW51.out).1).trans ZqW51.out)
                    have ZbW52 := Lib.hid ((hbW52.block _ (Array.getElem?_eq_some_iff.1 ZbW51.out).1).trans ZbW51.out)
                    have ZcW52 := Lib.hid ((hbW52.block _ (Array.getElem?_eq_some_iff.1 ZcW51.out).1).trans ZcW51.out)
                    have ZdW52 := Lib.hid ((hbW52.block _ (Array.getElem?_eq_some_iff.1 ZdW51.out).1).trans ZdW51.out)
                    have ZeW52 := Lib.hid ((hbW52.block _ (Array.getElem?_eq_some_iff.1 ZeW51.out).1).trans ZeW51.out)
                    have ZfW52 := Lib.hid ((hbW52.block _ (Array.getElem?_eq_some_iff.1 ZfW51.out).1).trans ZfW51.out)
                    have ZgW52 := Lib.hid ((hbW52.block _ (Array.getElem?_eq_some_iff.1 ZgW51.out).1).trans ZgW51.out)
                    have HBW52 := Lib.hid (thru hbW52 HBW51.out)
                    have SBW52 := Lib.hid hbW52; clear hbW52
                    have HWW52 := Lib.hid hW52; clear hW52
                    rw [HWW52.out]
                    clear ep0W51 ep1W51 eg0W51 eg1W51
                    have S52 := Lib.hid (S51.out.trans (SBW52.out.mono S51.out.size))
                    go_wp2_with fail
                    go_loopw [23, 24] (fun u v wr => ∃ x y : Int, u = .int .i64 x ∧ v = .int .i64 y ∧ (s0 ≤ x ∧ x ≤ (pa - 1) ∧ (pa - 1) ≤ y ∧ y ≤ s1) ∧ Hid (Below W52.heap.size W52 wr)) (fun u v _ => (intOf v - intOf u).toNat)
                    case atStart => exact ⟨s0, s1, rfl, rfl, ⟨Int.le_refl _, p0, p1, Int.le_refl _⟩, Lib.hid (Below.refl _ _)⟩
                    case round =>
                      obtain ⟨x, y, rfl, rfl, ⟨i0, i1, i2, i3⟩, BR⟩ := hrel
                      by_cases hxy : x < y
                      · have hxy2 : x < y := hxy
                        have SBwr := Lib.hid (BR.out)
                        have Ztwr := Lib.hid ((SBwr.out.block _ (Array.getElem?_eq_some_iff.1 ZtW52.out).1).trans ZtW52.out)
                        have Zxwr := Lib.hid ((SBwr.out.block _ (Array.getElem?_eq_some_iff.1 ZxW52.out).1).trans ZxW52.out)
                        have Zmwr := Lib.hid ((SBwr.out.block _ (Array.getElem?_eq_some_iff.1 ZmW52.out).1).trans ZmW52.out)
                        have Zrwr := Lib.hid ((SBwr.out.block _ (Array.getElem?_eq_some_iff.1 ZrW52.out).1).trans ZrW52.out)
                        have Zpwr := Lib.hid ((SBwr.out.block _ (Array.getElem?_eq_some_iff.1 ZpW52.out).1).trans ZpW52.out)
                        have Zqwr := Lib.hid ((SBwr.out.block _ (Array.getElem?_eq_some_iff.1 ZqW52.out).1).trans ZqW52.out)
                        have Zbwr := Lib.hid ((SBwr.out.block _ (Array.getElem?_eq_some_iff.1 ZbW52.out).1).trans ZbW52.out)
                        have Zcwr := Lib.hid ((SBwr.out.block _ (Array.getElem?_eq_some_iff.1 ZcW52.out).1).trans ZcW52.out)
                        have Zdwr := Lib.hid ((SBwr.out.block _ (Array.getElem?_eq_some_iff.1 ZdW52.out).1).trans ZdW52.out)
                        have Zewr := Lib.hid ((SBwr.out.block _ (Array.getElem?_eq_some_iff.1 ZeW52.out).1).trans ZeW52.out)
                        have Zfwr := Lib.hid ((SBwr.out.block _ (Array.getElem?_eq_some_iff.1 ZfW52.out).1).trans ZfW52.out)
                        have Zgwr := Lib.hid ((SBwr.out.block _ (Array.getElem?_eq_some_iff.1 ZgW52.out).1).trans ZgW52.out)
                        have HBwr := Lib.hid (thru SBwr.out HBW52.out)
                        have Swr := Lib.hid (S52.out.trans (SBwr.out.mono S52.out.size))
                        obtain ⟨md, hmd⟩ : ∃ m, (x + y + 1) / 2 = m := ⟨_, rfl⟩
                        have md0 : x < md ∧ md ≤ y := by omega
                        have xy0 : 0 ≤ x + y + 1 ∧ x + y + 1 ≤ 20001 := by omega
                        have et0wr : wr.cell? ⟨w.heap.size, 0, none⟩ = some (.slice t.aT t.nT t.cT) := cell_of_block Ztwr.out 0 (by simp)
                        have et1wr : wr.cell? ⟨w.heap.size, 1, none⟩ = some (.slice t.aS t.nS t.cS) := cell_of_block Ztwr.out 1 (by simp)
                        have et2wr : wr.cell? ⟨w.heap.size, 2, none⟩ = some (.slice t.H.a t.H.n t.H.c) := cell_of_block Ztwr.out 2 (by simp)
                        have et3wr : wr.cell? ⟨w.heap.size, 3, none⟩ = some (.slice t.R.a t.R.n t.R.c) := cell_of_block Ztwr.out 3 (by simp)
                        have ltwr := (Array.getElem?_eq_some_iff.1 Ztwr.out).1
                        have em0wr : wr.cell? ⟨w.heap.size + 1 + 1, 0, none⟩ = some (.int .i64 tlo) := cell_of_block Zmwr.out 0 (by simp)
                        have em1wr : wr.cell? ⟨w.heap.size + 1 + 1, 1, none⟩ = some (.int .i64 thi) := cell_of_block Zmwr.out 1 (by simp)
                        have lmwr := (Array.getElem?_eq_some_iff.1 Zmwr.out).1
                        go_wp2_with fail
                        refine (Calls.grown (EV'.out _ (Swr.out) md (by omega) (by omega))).mono ?_
                        rintro e w1 ⟨rfl, z31, rfl⟩
                        go_upto_region 25 with (fail)
                        obtain ⟨W53, hW53⟩ : ∃ W53, (((gw wr z31)).alloc (.cells #[.int .i64 (SL md).n, .int .i64 (SL md).d] 35)).alloc (.cells #[.int .i64 (SH md).n, .int .i64 (SH md).d] 35) = W53 := ⟨_, rfl⟩
                        have hbW53 : Below wr.heap.size wr W53 := by rw [← hW53]; exact ((below_gw wr z31).alloc (by simp [gw_size]) _).alloc (by simp [gw_size] <;> omega) _
                        have ZtW53 := Lib.hid ((hbW53.block _ (Array.getElem?_eq_some_iff.1 Ztwr.out).1).trans Ztwr.out)
                        have ZxW53 := Lib.hid ((hbW53.block _ (Array.getElem?_eq_some_iff.1 Zxwr.out).1).trans Zxwr.out)
                        have ZmW53 := Lib.hid ((hbW53.block _ (Array.getElem?_eq_some_iff.1 Zmwr.out).1).trans Zmwr.out)
                        have ZrW53 := Lib.hid ((hbW53.block _ (Array.getElem?_eq_some_iff.1 Zrwr.out).1).trans Zrwr.out)
                        have ZpW53 := Lib.hid ((hbW53.block _ (Array.getElem?_eq_some_iff.1 Zpwr.out).1).trans Zpwr.out)
                        have ZqW53 := Lib.hid ((hbW53.block _ (Array.getElem?_eq_some_iff.1 Zqwr.out).1).trans Zqwr.out)
                        have ZbW53 := Lib.hid ((hbW53.block _ (Array.getElem?_eq_some_iff.1 Zbwr.out).1).trans Zbwr.out)
                        have ZcW53 := Lib.hid ((hbW53.block _ (Array.getElem?_eq_some_iff.1 Zcwr.out).1).trans Zcwr.out)
                        have ZdW53 := Lib.hid ((hbW53.block _ (Array.getElem?_eq_some_iff.1 Zdwr.out).1).trans Zdwr.out)
                        have ZeW53 := Lib.hid ((hbW53.block _ (Array.getElem?_eq_some_iff.1 Zewr.out).1).trans Zewr.out)
                        have ZfW53 := Lib.hid ((hbW53.block _ (Array.getElem?_eq_some_iff.1 Zfwr.out).1).trans Zfwr.out)
                        have ZgW53 := Lib.hid ((hbW53.block _ (Array.getElem?_eq_some_iff.1 Zgwr.out).1).trans Zgwr.out)
                        have zfW53 : W53.heap[wr.heap.size + z31.bs.size]? = some (.cells #[.int .i64 (SL md).n, .int .i64 (SL md).d] 35 (0, 0)) := by rw [← hW53]; exact alloc_keep (alloc_at (by simp [gw_size]))
                        have ZfW53 := Lib.hid zfW53; clear zfW53
                        have zgW53 : W53.heap[wr.heap.size + z31.bs.size + 1]? = some (.cells #[.int .i64 (SH md).n, .int .i64 (SH md).d] 35 (0, 0)) := by rw [← hW53]; exact alloc_at (by simp [gw_size] <;> omega)
                        have ZgW53 := Lib.hid zgW53; clear zgW53
                        have HBW53 := Lib.hid (thru hbW53 HBwr.out)
                        have SBW53 := Lib.hid hbW53; clear hbW53
                        have HWW53 := Lib.hid hW53; clear hW53
                        rw [HWW53.out]
                        clear et0wr et1wr et2wr et3wr em0wr em1wr
                        have S53 := Lib.hid (Swr.out.trans (SBW53.out.mono Swr.out.size))
                        have eq0W53 : W53.cell? ⟨Bq, 0, none⟩ = some (.int .i64 (clm hi)) := cell_of_block ZqW53.out 0 (by simp)
                        have eq1W53 : W53.cell? ⟨Bq, 1, none⟩ = some (.int .i64 1) := cell_of_block ZqW53.out 1 (by simp)
                        have lqW53 := (Array.getElem?_eq_some_iff.1 ZqW53.out).1
                        have ef0W53 : W53.cell? ⟨wr.heap.size + z31.bs.size, 0, none⟩ = some (.int .i64 (SL md).n) := cell_of_block ZfW53.out 0 (by simp)
                        have ef1W53 : W53.cell? ⟨wr.heap.size + z31.bs.size, 1, none⟩ = some (.int .i64 (SL md).d) := cell_of_block ZfW53.out 1 (by simp)
                        have lfW53 := (Array.getElem?_eq_some_iff.1 ZfW53.out).1
                        have D := DB.out md (by omega) (by omega)
                        have LX := LB.out md (by omega) (by omega)
                        simp only [D] at LX
                        clear D
                        by_cases hd : pa ≤ md
                        · have d9 : decide (pa ≤ md) = true := by simp [hd]
                          simp only [d9] at LX
                          have HLX := Lib.hid LX
                          clear LX d9
                          go_wp2_with fail
                          refine (Calls.grown (HLX.out _)).mono ?_
                          rintro e w1 ⟨rfl, z32, rfl⟩
                          go_wp2_with fail
                          go_roundw
                          case rel => exact ⟨x, md - 1, rfl, rfl, ⟨by omega, by omega, by omega, by omega⟩, Lib.hid (BR.out.trans ((SBW53.out.trans ((below_gw W53 z32).mono SBW53.out.size)).mono BR.out.size))⟩
                          case measure => simp [intOf]; omega
                        · have d9 : decide (pa ≤ md) = false := by simp; omega
                          simp only [d9] at LX
                          have HLX := Lib.hid LX
                          clear LX d9
                          go_wp2_with fail
                          refine (Calls.grown (HLX.out _)).mono ?_
                          rintro e w1 ⟨rfl, z32, rfl⟩
                          go_wp2_with fail
                          go_roundw
                          case rel => exact ⟨md, y, rfl, rfl, ⟨by omega, by omega, by omega, by omega⟩, Lib.hid (BR.out.trans ((SBW53.out.trans ((below_gw W53 z32).mono SBW53.out.size)).mono BR.out.size))⟩
                          case measure => simp [intOf]; omega
                      · obtain rfl : (pa - 1) = x := by omega
                        obtain rfl : (pa - 1) = y := by omega
                        clear hxy i0 i1 i2 i3
                        have SBwr := Lib.hid (BR.out)
                        have Ztwr := Lib.hid ((SBwr.out.block _ (Array.getElem?_eq_some_iff.1 ZtW52.out).1).trans ZtW52.out)
                        have Zxwr := Lib.hid ((SBwr.out.block _ (Array.getElem?_eq_some_iff.1 ZxW52.out).1).trans ZxW52.out)
                        have Zmwr := Lib.hid ((SBwr.out.block _ (Array.getElem?_eq_some_iff.1 ZmW52.out).1).trans ZmW52.out)
                        have Zrwr := Lib.hid ((SBwr.out.block _ (Array.getElem?_eq_some_iff.1 ZrW52.out).1).trans ZrW52.out)
                        have Zpwr := Lib.hid ((SBwr.out.block _ (Array.getElem?_eq_some_iff.1 ZpW52.out).1).trans ZpW52.out)
                        have Zqwr := Lib.hid ((SBwr.out.block _ (Array.getElem?_eq_some_iff.1 ZqW52.out).1).trans ZqW52.out)
                        have Zbwr := Lib.hid ((SBwr.out.block _ (Array.getElem?_eq_some_iff.1 ZbW52.out).1).trans ZbW52.out)
                        have Zcwr := Lib.hid ((SBwr.out.block _ (Array.getElem?_eq_some_iff.1 ZcW52.out).1).trans ZcW52.out)
                        have Zdwr := Lib.hid ((SBwr.out.block _ (Array.getElem?_eq_some_iff.1 ZdW52.out).1).trans ZdW52.out)
                        have Zewr := Lib.hid ((SBwr.out.block _ (Array.getElem?_eq_some_iff.1 ZeW52.out).1).trans ZeW52.out)
                        have Zfwr := Lib.hid ((SBwr.out.block _ (Array.getElem?_eq_some_iff.1 ZfW52.out).1).trans ZfW52.out)
                        have Zgwr := Lib.hid ((SBwr.out.block _ (Array.getElem?_eq_some_iff.1 ZgW52.out).1).trans ZgW52.out)
                        have HBwr := Lib.hid (thru SBwr.out HBW52.out)
                        have Swr := Lib.hid (S52.out.trans (SBwr.out.mono S52.out.size))
                        have et0wr : wr.cell? ⟨w.heap.size, 0, none⟩ = some (.slice t.aT t.nT t.cT) := cell_of_block Ztwr.out 0 (by simp)
                        have et1wr : wr.cell? ⟨w.heap.size, 1, none⟩ = some (.slice t.aS t.nS t.cS) := cell_of_block Ztwr.out 1 (by simp)
                        have et2wr : wr.cell? ⟨w.heap.size, 2, none⟩ = some (.slice t.H.a t.H.n t.H.c) := cell_of_block Ztwr.out 2 (by simp)
                        have et3wr : wr.cell? ⟨w.heap.size, 3, none⟩ = some (.slice t.R.a t.R.n t.R.c) := cell_of_block Ztwr.out 3 (by simp)
                        have ltwr := (Array.getElem?_eq_some_iff.1 Ztwr.out).1
                        have em0wr : wr.cell? ⟨w.heap.size + 1 + 1, 0, none⟩ = some (.int .i64 tlo) := cell_of_block Zmwr.out 0 (by simp)
                        have em1wr : wr.cell? ⟨w.heap.size + 1 + 1, 1, none⟩ = some (.int .i64 thi) := cell_of_block Zmwr.out 1 (by simp)
                        have lmwr := (Array.getElem?_eq_some_iff.1 Zmwr.out).1
                        have nlt2 : ¬ pa - 1 < pa - 1 := by omega
                        go_wp2_with fail
                        refine (Calls.grown (EV'.out _ (Swr.out) (pa - 1) p0 p1)).mono ?_
                        rintro e w1 ⟨rfl, z61, rfl⟩
                        go_upto_region 29 with (fail)
                        obtain ⟨W71, hW71⟩ : ∃ W71, (((gw wr z61)).alloc (.cells #[.int .i64 (SL (pa - 1)).n, .int .i64 (SL (pa - 1)).d] 35)).alloc (.cells #[.int .i64 (SH (pa - 1)).n, .int .i64 (SH (pa - 1)).d] 35) = W71 := ⟨_, rfl⟩
                        have hbW71 : Below wr.heap.size wr W71 := by rw [← hW71]; exact ((below_gw wr z61).alloc (by simp [gw_size]) _).alloc (by simp [gw_size] <;> omega) _
                        have ZtW71 := Lib.hid ((hbW71.block _ (Array.getElem?_eq_some_iff.1 Ztwr.out).1).trans Ztwr.out)
                        have ZxW71 := Lib.hid ((hbW71.block _ (Array.getElem?_eq_some_iff.1 Zxwr.out).1).trans Zxwr.out)
                        have ZmW71 := Lib.hid ((hbW71.block _ (Array.getElem?_eq_some_iff.1 Zmwr.out).1).trans Zmwr.out)
                        have ZrW71 := Lib.hid ((hbW71.block _ (Array.getElem?_eq_some_iff.1 Zrwr.out).1).trans Zrwr.out)
                        have ZpW71 := Lib.hid ((hbW71.block _ (Array.getElem?_eq_some_iff.1 Zpwr.out).1).trans Zpwr.out)
                        have ZqW71 := Lib.hid ((hbW71.block _ (Array.getElem?_eq_some_iff.1 Zqwr.out).1).trans Zqwr.out)
                        have ZbW71 := Lib.hid ((hbW71.block _ (Array.getElem?_eq_some_iff.1 Zbwr.out).1).trans Zbwr.out)
                        have ZcW71 := Lib.hid ((hbW71.block _ (Array.getElem?_eq_some_iff.1 Zcwr.out).1).trans Zcwr.out)
                        have ZdW71 := Lib.hid ((hbW71.block _ (Array.getElem?_eq_some_iff.1 Zdwr.out).1).trans Zdwr.out)
                        have ZeW71 := Lib.hid ((hbW71.block _ (Array.getElem?_eq_some_iff.1 Zewr.out).1).trans Zewr.out)
                        have ZfW71 := Lib.hid ((hbW71.block _ (Array.getElem?_eq_some_iff.1 Zfwr.out).1).trans Zfwr.out)
                        have ZgW71 := Lib.hid ((hbW71.block _ (Array.getElem?_eq_some_iff.1 Zgwr.out).1).trans Zgwr.out)
                        have zfW71 : W71.heap[wr.heap.size + z61.bs.size]? = some (.cells #[.int .i64 (SL (pa - 1)).n, .int .i64 (SL (pa - 1)).d] 35 (0, 0)) := by rw [← hW71]; exact alloc_keep (alloc_at (by simp [gw_size]))
                        have ZfW71 := Lib.hid zfW71; clear zfW71
                        have zgW71 : W71.heap[wr.heap.size + z61.bs.size + 1]? = some (.cells #[.int .i64 (SH (pa - 1)).n, .int .i64 (SH (pa - 1)).d] 35 (0, 0)) := by rw [← hW71]; exact alloc_at (by simp [gw_size] <;> omega)
                        have ZgW71 := Lib.hid zgW71; clear zgW71
                        have HBW71 := Lib.hid (thru hbW71 HBwr.out)
                        have SBW71 := Lib.hid hbW71; clear hbW71
                        have HWW71 := Lib.hid hW71; clear hW71
                        rw [HWW71.out]
                        clear et0wr et1wr et2wr et3wr em0wr em1wr
                        have S71 := Lib.hid (Swr.out.trans (SBW71.out.mono Swr.out.size))
                        have eq0W71 : W71.cell? ⟨Bq, 0, none⟩ = some (.int .i64 (clm hi)) := cell_of_block ZqW71.out 0 (by simp)
                        have eq1W71 : W71.cell? ⟨Bq, 1, none⟩ = some (.int .i64 1) := cell_of_block ZqW71.out 1 (by simp)
                        have lqW71 := (Array.getElem?_eq_some_iff.1 ZqW71.out).1
                        have ef0W71 : W71.cell? ⟨wr.heap.size + z61.bs.size, 0, none⟩ = some (.int .i64 (SL (pa - 1)).n) := cell_of_block ZfW71.out 0 (by simp)
                        have ef1W71 : W71.cell? ⟨wr.heap.size + z61.bs.size, 1, none⟩ = some (.int .i64 (SL (pa - 1)).d) := cell_of_block ZfW71.out 1 (by simp)
                        have lfW71 := (Array.getElem?_eq_some_iff.1 ZfW71.out).1
                        have er0W71 : W71.cell? ⟨w.heap.size + 1 + 1 + 1, 0, none⟩ = some (.int .i64 0) := cell_of_block ZrW71.out 0 (by simp)
                        have fr0W71 := frozen_of_block ZrW71.out 0
                        have er1W71 : W71.cell? ⟨w.heap.size + 1 + 1 + 1, 1, none⟩ = some (.int .i64 0) := cell_of_block ZrW71.out 1 (by simp)
                        have fr1W71 := frozen_of_block ZrW71.out 1
                        have lrW71 := (Array.getElem?_eq_some_iff.1 ZrW71.out).1
                        have LY := LD.out (pa - 1) p0 p1
                        by_cases a2 : pa - 1 < s1
                        · have d7 : decide (pa - 1 < s1) = true := by simp [a2]
                          cases v8 : ltF (SL (pa - 1)) ⟨clm hi, 1⟩ with
                          | false =>
                            have eh := HEH.out
                            rw [if_neg (fun h => by rw [v8] at h; cases h.2)] at eh
                            simp only [v8] at LY
                            have HLY := Lib.hid LY
                            have EH2 := Lib.hid eh
                            clear LY v8 a2 eh
                            go_wp2_with fail
                            refine (Calls.grown (HLY.out _)).mono ?_
                            rintro e w1 ⟨rfl, z62, rfl⟩
                            go_wp2_with fail
                            refine bodyPost_ret (v := .tuple #[.agg #[.int .i64 fr, .int .i64 (pa - 1)], .int .i64 0]) (by simp [results, Try.results27, go_sem, *]) rfl ⟨by rw [← HRES.out, EL2.out, EH2.out], ?_⟩
                            exact ((HBW71.out.gw z62).setCell (by simp <;> omega) _).setCell (by simp <;> omega) _
                          | true =>
                            have eh := HEH.out
                            rw [if_pos ⟨a2, v8⟩] at eh
                            simp only [v8] at LY
                            have HLY := Lib.hid LY
                            have EH2 := Lib.hid eh
                            clear LY v8 a2 eh
                            go_wp2_with fail
                            refine (Calls.grown (HLY.out _)).mono ?_
                            rintro e w1 ⟨rfl, z62, rfl⟩
                            go_wp2_with fail
                            refine bodyPost_ret (v := .tuple #[.agg #[.int .i64 fr, .int .i64 (pa - 1 + 1)], .int .i64 0]) (by simp [results, Try.results27, go_sem, *]) rfl ⟨by rw [← HRES.out, EL2.out, EH2.out, show pa - 1 + 1 = pa by omega], ?_⟩
                            exact ((HBW71.out.gw z62).setCell (by simp <;> omega) _).setCell (by simp <;> omega) _
                        · have d7 : decide (pa - 1 < s1) = false := by simp; omega
                          have eh := HEH.out
                          rw [if_neg (fun h => a2 h.1)] at eh
                          have EH2 := Lib.hid eh
                          clear a2 LY eh
                          go_wp2_with fail
                          refine bodyPost_ret (v := .tuple #[.agg #[.int .i64 fr, .int .i64 (pa - 1)], .int .i64 0]) (by simp [results, Try.results27, go_sem, *]) rfl ⟨by rw [← HRES.out, EL2.out, EH2.out], ?_⟩
                          exact ((HBW71.out).setCell (by simp <;> omega) _).setCell (by simp <;> omega) _
            | true =>
              simp only [v2] at N2
              have HN2 := Lib.hid N2
              have hn := ND.out
              rw [v1, v2, Bool.false_or] at hn
              have e4 := E0.out hn
              obtain ⟨z1_, z2_⟩ := EZ.out (by rw [e4]; decide)
              have RE := HRES.out
              rw [e4, z1_, z2_] at RE
              have HRE := Lib.hid RE
              clear RE hn e4 z1_ z2_ N2 v1 v2
              go_wp2_with fail
              refine (Calls.grown (HN1.out _)).mono ?_
              rintro e w1 ⟨rfl, z23, rfl⟩
              go_wp2_with fail
              refine (Calls.gw_of (HN2.out _)).mono ?_
              rintro e w1 ⟨rfl, z24, rfl⟩
              go_wp2_with fail
              refine bodyPost_ret (v := .tuple #[.agg #[.int .i64 0, .int .i64 0], .int .i64 4]) (by simp [results, Try.results27, go_sem, *]) rfl ⟨HRE.out, ?_⟩
              exact ((HBW32.out.gw z24).setCell (by simp <;> omega) _).setCell (by simp <;> omega) _
          | true =>
            simp only [v1] at N1
            have HN1 := Lib.hid N1
            have hn := ND.out
            rw [v1, Bool.true_or] at hn
            have e4 := E0.out hn
            obtain ⟨z1_, z2_⟩ := EZ.out (by rw [e4]; decide)
            have RE := HRES.out
            rw [e4, z1_, z2_] at RE
            have HRE := Lib.hid RE
            clear RE hn e4 z1_ z2_ N1 N2 v1
            go_wp2_with fail
            refine (Calls.grown (HN1.out _)).mono ?_
            rintro e w1 ⟨rfl, z23, rfl⟩
            go_wp2_with fail
            refine bodyPost_ret (v := .tuple #[.agg #[.int .i64 0, .int .i64 0], .int .i64 4]) (by simp [results, Try.results27, go_sem, *]) rfl ⟨HRE.out, ?_⟩
            exact ((HBW32.out.gw z23).setCell (by simp <;> omega) _).setCell (by simp <;> omega) _
    · have d0 : decide (hi < lo) = true := by simp; omega
      have e3 : t.strE lo hi tlo thi = 1 := Tab.strE_arg hlh
      obtain ⟨e1, e2⟩ := Tab.str_zero (t := t) (lo := lo) (hi := hi) (tlo := tlo) (thi := thi) (by rw [e3]; decide)
      rw [e1, e2, e3]
      clear e1 e2 e3
      unfold Tab.val at TB' ⊢
      clear hlh hok
      go_enter Try.func27, Try.ntmps27
      go_upto_region 1 with (fail)
      rw [HWc.out]
      go_wp2_with fail
      refine (Calls.grown (TB'.out _ (Below.refl _ W1))).mono ?_
      rintro e w1 ⟨rfl, z1, rfl⟩
      go_wp2_with fail
      refine bodyPost_ret (v := .tuple #[.agg #[.int .i64 0, .int .i64 0], .int .i64 1]) (by simp [results, Try.results27, go_sem, *]) rfl ⟨rfl, ?_⟩
      exact ((HBc.out.gw z1).setCell (by simp <;> omega) _).setCell (by simp <;> omega) _
end Go.Proofs.Ytohcopdfdmjhnaa.L1
