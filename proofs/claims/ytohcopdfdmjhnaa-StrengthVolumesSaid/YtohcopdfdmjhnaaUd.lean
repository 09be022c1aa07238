/- Plain laws: what a true strength shows, and what is read of it. No conditions beyond each theorem's own. -/
import Derived.Test.YtohcopdfdmjhnaaSn
import Derived.Test.YtohcopdfdmjhnaaSq
set_option linter.unusedVariables false
set_option linter.unusedSimpArgs false
set_option linter.unusedSectionVars false
set_option linter.constructorNameAsVariable false
namespace Go.Proofs.Ytohcopdfdmjhnaa.L1
open Go.RowKit
open Go.Proofs.Ytohcopdfdmjhnaa

attribute [local go_sem] gw_cell gw_frozen gw_size

section
variable {t : Tab} {tlo thi x y lo hi : Int}
/-- the value at a point is what is least and greatest there -/
theorem low_point (g : t.Good) (m : Rows) : t.low m y y x x = t.valM m x y := by
  obtain ⟨a, b, ha, hb, e⟩ := (lowP_is (M := m.M) (tlo := x) (thi := x) (slo := y) (shi := y) g.ok.rT g.ok.rS g.ok.t2 g.ok.s2).at_
  rw [mark_one ha, mark_one hb] at e
  exact e
theorem high_point (g : t.Good) (m : Rows) : t.high m y y x x = t.valM m x y := by
  obtain ⟨a, b, ha, hb, e⟩ := (highP_is (M := m.M) (tlo := x) (thi := x) (slo := y) (shi := y) g.ok.rT g.ok.rS g.ok.t2 g.ok.s2).at_
  rw [mark_one ha, mark_one hb] at e
  exact e
theorem hval_d (g : t.Good) (m : Rows) (x y : Int) : 1 ≤ (t.valM m x y).d := valF_d g.ok.rT g.ok.rS g.ok.t2 g.ok.s2 x y
theorem low_all (g : t.Good) (m : Rows) (ft : t.tb.FitT tlo thi) {slo shi : Int} (fs : t.tb.FitS slo shi) (x0 : tlo ≤ x) (x1 : x ≤ thi) (y0 : slo ≤ y) (y1 : y ≤ shi) : leF (t.low m slo shi tlo thi) (t.valM m x y) :=
  (lowP_is (M := m.M) g.ok.rT g.ok.rS g.ok.t2 g.ok.s2).all g.ok.rT g.ok.rS g.ok.t2 g.ok.s2 ft.a ft.c fs.a fs.c x0 x1 y0 y1
theorem high_all (g : t.Good) (m : Rows) (ft : t.tb.FitT tlo thi) {slo shi : Int} (fs : t.tb.FitS slo shi) (x0 : tlo ≤ x) (x1 : x ≤ thi) (y0 : slo ≤ y) (y1 : y ≤ shi) : leF (t.valM m x y) (t.high m slo shi tlo thi) :=
  (highP_is (M := m.M) g.ok.rT g.ok.rS g.ok.t2 g.ok.s2).all g.ok.rT g.ok.rS g.ok.t2 g.ok.s2 ft.a ft.c fs.a fs.c x0 x1 y0 y1
theorem low_d (g : t.Good) (m : Rows) (slo shi tlo thi : Int) : 1 ≤ (t.low m slo shi tlo thi).d := (lowP_is (M := m.M) g.ok.rT g.ok.rS g.ok.t2 g.ok.s2).d g.ok.rT g.ok.rS g.ok.t2 g.ok.s2
theorem high_d (g : t.Good) (m : Rows) (slo shi tlo thi : Int) : 1 ≤ (t.high m slo shi tlo thi).d := (highP_is (M := m.M) g.ok.rT g.ok.rS g.ok.t2 g.ok.s2).d g.ok.rT g.ok.rS g.ok.t2 g.ok.s2
theorem hval_range (g : t.Good) (x0 : t.T 0 ≤ x) (x1 : x ≤ t.T (t.nT - 1)) (y0 : t.S 0 ≤ y) (y1 : y ≤ t.S (t.nS - 1)) : -10000 ≤ (t.valM t.H x y).flr ∧ (t.valM t.H x y).cei ≤ 20000 := by
  obtain ⟨a, b⟩ := val_range (M := t.H.M) g.ok.rT g.ok.rS g.ok.t2 g.ok.s2 x0 x1 y0 y1 g.ok.bH
  exact ⟨(ofI_le (hval_d g t.H x y)).1 a, (le_ofI (hval_d g t.H x y)).1 b⟩
theorem rval_range (g : t.Good) (x0 : t.T 0 ≤ x) (x1 : x ≤ t.T (t.nT - 1)) (y0 : t.S 0 ≤ y) (y1 : y ≤ t.S (t.nS - 1)) : 900000 ≤ (t.valM t.R x y).flr ∧ (t.valM t.R x y).cei ≤ 1100000 := by
  obtain ⟨a, b⟩ := val_range (M := t.R.M) g.ok.rT g.ok.rS g.ok.t2 g.ok.s2 x0 x1 y0 y1 g.ok.bR
  exact ⟨(ofI_le (hval_d g t.R x y)).1 a, (le_ofI (hval_d g t.R x y)).1 b⟩
/-- where a true strength is, if what is shown is within what it shows -/
theorem str_true (g : t.Good) (hok : t.okB = true) (hT : t.fitT tlo thi = true) (x0 : tlo ≤ x) (x1 : x ≤ thi) (y0 : t.S 0 ≤ y) (y1 : y ≤ t.S (t.nS - 1)) (h0 : lo ≤ (t.valM t.H x y).flr) (h1 : (t.valM t.H x y).cei ≤ hi) :
    t.strE lo hi tlo thi = 0 ∧ t.strL lo hi tlo thi ≤ y ∧ y ≤ t.strH lo hi tlo thi ∧ t.tb.FitS (t.strL lo hi tlo thi) (t.strH lo hi tlo thi) := by
  have ft := Tab.fitT_t hT
  have fs : t.tb.FitS y y := ⟨y0, Int.le_refl _, y1⟩
  have d := hval_d g t.H x y
  have fc := flr_le_cei d
  have hd1 : (1 : Int) ≤ (ofI lo).d := by show (1 : Int) ≤ 1; omega
  have hd2 : (1 : Int) ≤ (ofI hi).d := by show (1 : Int) ≤ 1; omega
  have a : leF (ofI lo) (t.tb.seeH tlo thi y) := leF_trans hd1 d (g.ok.seeH_d _ _ _) ((ofI_le d).2 h0) (high_all g t.H ft fs x0 x1 (Int.le_refl _) (Int.le_refl _))
  have b : leF (t.tb.seeL tlo thi y) (ofI hi) := leF_trans (g.ok.seeL_d _ _ _) d hd2 (low_all g t.H ft fs x0 x1 (Int.le_refl _) (Int.le_refl _)) ((le_ofI d).2 h1)
  obtain ⟨n, f, p⟩ := g.ok.str_has ft y0 y1 a b
  have e := Tab.strE_ok hok (show lo ≤ hi by omega) hT n
  have eL : t.strL lo hi tlo thi = t.tb.strLo lo tlo thi := if_pos e
  have eH : t.strH lo hi tlo thi = t.tb.strHi hi tlo thi := if_pos e
  have l1 := Tb.strLo_le (t := t.tb) (lo := lo) (tlo := tlo) (thi := thi)
  have l2 := Tb.le_strHi (t := t.tb) (hi := hi) (tlo := tlo) (thi := thi)
  have l3 := Tb.strHi_last n
  refine ⟨e, by omega, by omega, ⟨?_, ?_, ?_⟩⟩
  · rw [eL]; exact l1.2.2
  · omega
  · rw [eH]; exact l3
end
end Go.Proofs.Ytohcopdfdmjhnaa.L1
