/- Plain laws: both ends of what Strength returns are tight, as the document's fractions say. No conditions beyond each theorem's own. -/
import Derived.Test.YtohcopdfdmjhnaaTj
import Derived.Test.YtohcopdfdmjhnaaTe
set_option linter.unusedVariables false
set_option linter.unusedSimpArgs false
set_option linter.unusedSectionVars false
set_option linter.constructorNameAsVariable false
namespace Go.Proofs.Ytohcopdfdmjhnaa.L1
open Go.RowKit
open Go.Proofs.Ytohcopdfdmjhnaa

attribute [local go_sem] gw_cell gw_frozen gw_size

section
variable {t : Tab} {lo hi tlo thi : Int}
def clm (x : Int) : Int := max (-30000) (min 30000 x)
theorem clm_fit (x : Int) : (⟨clm x, 1⟩ : Fr).Fit := by unfold clm; exact ⟨by show (1 : Int) ≤ 1; omega, by show (1 : Int) ≤ 100000000; omega, by show -1000000000000000 ≤ max (-30000) (min 30000 x); omega, by show max (-30000) (min 30000 x) ≤ 1000000000000000; omega⟩
theorem leF_eqL {x y z : Fr} (hx : 1 ≤ x.d) (hy : 1 ≤ y.d) (hz : 1 ≤ z.d) (e : eqF x y) : leF x z ↔ leF y z :=
  ⟨fun h => leF_trans hy hx hz (eqF_le e).2 h, fun h => leF_trans hx hy hz (eqF_le e).1 h⟩
theorem leF_eqR {x y z : Fr} (hx : 1 ≤ x.d) (hy : 1 ≤ y.d) (hz : 1 ≤ z.d) (e : eqF x y) : leF z x ↔ leF z y :=
  ⟨fun h => leF_trans hz hx hy h (eqF_le e).1, fun h => leF_trans hz hy hx h (eqF_le e).2⟩
/-- what is between -10000 and 20000 does not see the clamps -/
theorem clm_le {v : Fr} (hd : 1 ≤ v.d) (h0 : leF (ofI (-10000)) v) (h1 : leF v (ofI 20000)) (x : Int) : (leF (ofI x) v ↔ leF (ofI (clm x)) v) ∧ (leF v (ofI x) ↔ leF v (ofI (clm x))) := by
  rw [ofI_le hd] at h0
  rw [le_ofI hd] at h1
  have fc := flr_le_cei hd
  rw [ofI_le hd, ofI_le hd, le_ofI hd, le_ofI hd]
  unfold clm
  constructor <;> omega
theorem sees_bd (g : t.Good) (ft : t.tb.FitT tlo thi) {s : Int} (fs : t.tb.FitS s s) : (1 ≤ (t.rhigh t.H s s tlo thi).d ∧ 1 ≤ (t.rlow t.H s s tlo thi).d) ∧
    (∀ x, (leF (ofI (clm x)) (t.rhigh t.H s s tlo thi) ↔ leF (ofI x) (t.tb.seeH tlo thi s)) ∧ (leF (t.rhigh t.H s s tlo thi) (ofI (clm x)) ↔ leF (t.tb.seeH tlo thi s) (ofI x))) ∧
    ∀ x, (leF (ofI (clm x)) (t.rlow t.H s s tlo thi) ↔ leF (ofI x) (t.tb.seeL tlo thi s)) ∧ (leF (t.rlow t.H s s tlo thi) (ofI (clm x)) ↔ leF (t.tb.seeL tlo thi s) (ofI x)) := by
  have one (c : Int) : (1 : Int) ≤ (ofI c).d := by show (1 : Int) ≤ 1; omega
  have dH := g.ok.seeH_d tlo thi s
  have dL := g.ok.seeL_d tlo thi s
  have eH : eqF (t.rhigh t.H s s tlo thi) (t.tb.seeH tlo thi s) := rhigh_eq g
  have eL : eqF (t.rlow t.H s s tlo thi) (t.tb.seeL tlo thi s) := rlow_eq g
  have rH : 1 ≤ (t.rhigh t.H s s tlo thi).d := (highR_is (M := t.H.M) g.ok.rT g.ok.rS g.ok.t2 g.ok.s2).d g.ok.rT g.ok.rS g.ok.t2 g.ok.s2
  have rL : 1 ≤ (t.rlow t.H s s tlo thi).d := (lowR_is (M := t.H.M) g.ok.rT g.ok.rS g.ok.t2 g.ok.s2).d g.ok.rT g.ok.rS g.ok.t2 g.ok.s2
  obtain ⟨h0, h1⟩ := g.ok.seeH_range ft fs.a fs.c
  obtain ⟨l0, l1⟩ := g.ok.seeL_range ft fs.a fs.c
  refine ⟨⟨rH, rL⟩, fun x => ?_, fun x => ?_⟩
  · exact ⟨(leF_eqR rH dH (one _) eH).trans (clm_le dH h0 h1 x).1.symm, (leF_eqL rH dH (one _) eH).trans (clm_le dH h0 h1 x).2.symm⟩
  · exact ⟨(leF_eqR rL dL (one _) eL).trans (clm_le dL l0 l1 x).1.symm, (leF_eqL rL dL (one _) eL).trans (clm_le dL l0 l1 x).2.symm⟩
theorem tight_plain (hE : t.strE lo hi tlo thi = 0) :
    (t.S 0 < t.strL lo hi tlo thi → ltF ⟨clm lo, 1⟩ (t.rhigh t.H (t.strL lo hi tlo thi) (t.strL lo hi tlo thi) tlo thi) = false) ∧
    (ltF (t.rhigh t.H (t.strL lo hi tlo thi) (t.strL lo hi tlo thi) tlo thi) ⟨clm lo, 1⟩ = true → ltF ⟨clm lo, 1⟩ (t.rhigh t.H (min (t.S (t.nS - 1)) (t.strL lo hi tlo thi + 1)) (min (t.S (t.nS - 1)) (t.strL lo hi tlo thi + 1)) tlo thi) = true) ∧
    (t.strH lo hi tlo thi < t.S (t.nS - 1) → ltF (t.rlow t.H (t.strH lo hi tlo thi) (t.strH lo hi tlo thi) tlo thi) ⟨clm hi, 1⟩ = false) ∧
    (ltF ⟨clm hi, 1⟩ (t.rlow t.H (t.strH lo hi tlo thi) (t.strH lo hi tlo thi) tlo thi) = true → ltF (t.rlow t.H (max (t.S 0) (t.strH lo hi tlo thi - 1)) (max (t.S 0) (t.strH lo hi tlo thi - 1)) tlo thi) ⟨clm hi, 1⟩ = true) ∧
    t.tb.FitS (min (t.S (t.nS - 1)) (t.strL lo hi tlo thi + 1)) (min (t.S (t.nS - 1)) (t.strL lo hi tlo thi + 1)) ∧ t.tb.FitS (max (t.S 0) (t.strH lo hi tlo thi - 1)) (max (t.S 0) (t.strH lo hi tlo thi - 1)) := by
  obtain ⟨hok, hlh, hT, hn⟩ := Tab.strE_zero hE
  have g := Tab.good hok
  have ft := Tab.fitT_t hT
  obtain ⟨s0, s1, s2, s3⟩ := str_range hE
  have sa := s3.a; have sc := s3.c
  simp only [Tab.tb] at sa sc
  have eL : t.strL lo hi tlo thi = t.tb.strLo lo tlo thi := if_pos hE
  have eH : t.strH lo hi tlo thi = t.tb.strHi hi tlo thi := if_pos hE
  obtain ⟨a1, a2⟩ := g.ok.str_tightLo hn
  obtain ⟨b1, b2⟩ := g.ok.str_tightHi hn
  rw [← eL] at a1 a2
  rw [← eH] at b1 b2
  have lenS : t.S 0 < t.S (t.nS - 1) := g.ok.len
  have k1 : t.tb.FitS (t.strL lo hi tlo thi) (t.strL lo hi tlo thi) := ⟨sa, Int.le_refl _, by simp only [Tab.tb]; omega⟩
  have k2 : t.tb.FitS (t.strH lo hi tlo thi) (t.strH lo hi tlo thi) := ⟨by simp only [Tab.tb]; omega, Int.le_refl _, sc⟩
  have k3 : t.tb.FitS (min (t.S (t.nS - 1)) (t.strL lo hi tlo thi + 1)) (min (t.S (t.nS - 1)) (t.strL lo hi tlo thi + 1)) := ⟨by simp only [Tab.tb]; omega, Int.le_refl _, by simp only [Tab.tb]; omega⟩
  have k4 : t.tb.FitS (max (t.S 0) (t.strH lo hi tlo thi - 1)) (max (t.S 0) (t.strH lo hi tlo thi - 1)) := ⟨by simp only [Tab.tb]; omega, Int.le_refl _, by simp only [Tab.tb]; omega⟩
  have f0 : t.tb.first = t.S 0 := rfl
  have f1 : t.tb.last = t.S (t.nS - 1) := rfl
  rw [f0] at a1 b2
  rw [f1] at a2 b1
  generalize t.strL lo hi tlo thi = al at *
  generalize t.strH lo hi tlo thi = ah at *
  obtain ⟨_, cH, _⟩ := sees_bd g ft k1
  obtain ⟨_, _, cL⟩ := sees_bd g ft k2
  refine ⟨fun h => ltF_f.2 ?_, fun h => ?_, fun h => ltF_f.2 ?_, fun h => ?_, k3, k4⟩
  · exact (cH lo).2.2 (a1 h)
  · have h2 := ltF_t.1 h
    obtain ⟨c1, c2⟩ := a2 (fun hh => h2 ((cH lo).1.2 hh))
    have em : min (t.S (t.nS - 1)) (al + 1) = al + 1 := by omega
    rw [em] at k3 ⊢
    obtain ⟨_, dH, _⟩ := sees_bd g ft k3
    exact ltF_t.2 (fun hh => c2 ((dH lo).2.1 hh))
  · exact (cL hi).1.2 (b1 h)
  · have h2 := ltF_t.1 h
    obtain ⟨c1, c2⟩ := b2 (fun hh => h2 ((cL hi).2.2 hh))
    have em : max (t.S 0) (ah - 1) = ah - 1 := by omega
    rw [em] at k4 ⊢
    obtain ⟨_, _, dL⟩ := sees_bd g ft k4
    exact ltF_t.2 (fun hh => c2 ((dL hi).1.1 hh))
end
end Go.Proofs.Ytohcopdfdmjhnaa.L1
