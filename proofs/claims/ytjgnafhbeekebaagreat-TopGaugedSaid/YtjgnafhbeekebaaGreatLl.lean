/- Contracts of the reference's Sees, Shown. Contracts of the reference's Volume, Measured. No conditions beyond each theorem's own. -/
import Derived.Test.YtjgnafhbeekebaaGreatLk
import Derived.Test.YtjgnafhbeekebaaGreatLj
import Derived.Test.YtjgnafhbeekebaaGreatLc
import Derived.Test.YtjgnafhbeekebaaGreatSq
import Derived.Test.YtjgnafhbeekebaaGreatLi
import Derived.Test.YtjgnafhbeekebaaGreatAb
import Derived.Test.YtjgnafhbeekebaaGreatLh
set_option linter.unusedVariables false
set_option linter.unusedSimpArgs false
set_option linter.unusedSectionVars false
set_option linter.constructorNameAsVariable false
namespace Go.Proofs.YtjgnafhbeekebaaGreat.L1
open Go.RowKit
open Go.Proofs.YtjgnafhbeekebaaGreat

attribute [local go_sem] gw_cell gw_frozen gw_size

section
variable {t : Tab} {m : Rows} {slo shi tlo thi : Int}
theorem rlow_eq (g : t.Good) : eqF (t.rlow m slo shi tlo thi) (t.low m slo shi tlo thi) :=
  (lowR_is (M := m.M) g.ok.rT g.ok.rS g.ok.t2 g.ok.s2).eq (lowP_is (M := m.M) g.ok.rT g.ok.rS g.ok.t2 g.ok.s2)
theorem rhigh_eq (g : t.Good) : eqF (t.rhigh m slo shi tlo thi) (t.high m slo shi tlo thi) :=
  (highR_is (M := m.M) g.ok.rT g.ok.rS g.ok.t2 g.ok.s2).eq (highP_is (M := m.M) g.ok.rT g.ok.rS g.ok.t2 g.ok.s2)
theorem rlow_fit {w : World} (g : t.Good) (hM : t.Rowed m w) (ft : t.tb.FitT tlo thi) (fs : t.tb.FitS slo shi) : (t.rlow m slo shi tlo thi).Fit := by
  obtain ⟨x, y, hx, hy, e⟩ := (lowR_is (M := m.M) (tlo := tlo) (thi := thi) (slo := slo) (shi := shi) g.ok.rT g.ok.rS g.ok.t2 g.ok.s2).at_
  have a := mark_in ft.b hx
  have b := mark_in fs.b hy
  have f1 := ft.a; have f2 := ft.c; have f3 := fs.a; have f4 := fs.c
  have e2 : t.rlow m slo shi tlo thi = t.valM m x y := e
  rw [e2]
  exact g.fit hM ⟨by omega, Int.le_refl _, by omega⟩ ⟨by omega, Int.le_refl _, by omega⟩
theorem rhigh_fit {w : World} (g : t.Good) (hM : t.Rowed m w) (ft : t.tb.FitT tlo thi) (fs : t.tb.FitS slo shi) : (t.rhigh m slo shi tlo thi).Fit := by
  obtain ⟨x, y, hx, hy, e⟩ := (highR_is (M := m.M) (tlo := tlo) (thi := thi) (slo := slo) (shi := shi) g.ok.rT g.ok.rS g.ok.t2 g.ok.s2).at_
  have a := mark_in ft.b hx
  have b := mark_in fs.b hy
  have f1 := ft.a; have f2 := ft.c; have f3 := fs.a; have f4 := fs.c
  have e2 : t.rhigh m slo shi tlo thi = t.valM m x y := e
  rw [e2]
  exact g.fit hM ⟨by omega, Int.le_refl _, by omega⟩ ⟨by omega, Int.le_refl _, by omega⟩
end

end Go.Proofs.YtjgnafhbeekebaaGreat.L1

namespace Go.Proofs.YtjgnafhbeekebaaGreat.L1
open Go.RowKit
open Go.Proofs.YtjgnafhbeekebaaGreat

attribute [local go_sem] gw_cell gw_frozen gw_size

section
variable {t : Tab} {slo shi tlo thi : Int}
theorem ge_one {v u : Fr} (hd : 1 ≤ v.d) (hu : 1 ≤ u.d) (h : leF (ofI 900000) u) (e : eqF v u) : v.d ≤ v.n := by
  have h2 := leF_trans (by show (1 : Int) ≤ 1; omega) hu hd h (eqF_le e).2
  unfold leF ofI at h2
  simp only [Int.mul_one] at h2
  omega
theorem rlowR_ok {w : World} (g : t.Good) (hI : t.In w) (ft : t.tb.FitT tlo thi) (fs : t.tb.FitS slo shi) : (t.rlow t.R slo shi tlo thi).Fit ∧ (t.rlow t.R slo shi tlo thi).d ≤ (t.rlow t.R slo shi tlo thi).n := by
  have f := rlow_fit (m := t.R) g (g.rowsR hI) ft fs
  obtain ⟨a, _, d, _⟩ := g.ok.lowV_range ft fs
  exact ⟨f, ge_one f.d1 d a (rlow_eq g)⟩
theorem rhighR_ok {w : World} (g : t.Good) (hI : t.In w) (ft : t.tb.FitT tlo thi) (fs : t.tb.FitS slo shi) : (t.rhigh t.R slo shi tlo thi).Fit ∧ (t.rhigh t.R slo shi tlo thi).d ≤ (t.rhigh t.R slo shi tlo thi).n := by
  have f := rhigh_fit (m := t.R) g (g.rowsR hI) ft fs
  obtain ⟨a, _, d, _⟩ := g.ok.highV_range ft fs
  exact ⟨f, ge_one f.d1 d a (rhigh_eq g)⟩
end

end Go.Proofs.YtjgnafhbeekebaaGreat.L1
