/- Plain laws of measurements: what shows less with less precision; the common part is within both. No conditions beyond each theorem's own. -/
import Derived.Test.YtljofnmgddfljaaBy
import Derived.Test.YtljofnmgddfljaaCa
set_option linter.unusedVariables false
set_option linter.unusedSimpArgs false
set_option linter.unusedSectionVars false
set_option linter.constructorNameAsVariable false
namespace Go.Proofs.Ytljofnmgddfljaa
open Go.RowKit

theorem partLo_mono {a b s t : Int} (h0 : 0 ≤ a) (h1 : a ≤ b) (h2 : 0 ≤ s) (h3 : s ≤ t) : partLo a s ≤ partLo b t := by
  have := (mul_le h0 h1 h2 h3).2
  unfold partLo
  omega
theorem partHi_mono {a b s t : Int} (h0 : 0 ≤ a) (h1 : a ≤ b) (h2 : 0 ≤ s) (h3 : s ≤ t) : partHi a s ≤ partHi b t := by
  have := (mul_le h0 h1 h2 h3).2
  unfold partHi upI
  omega
theorem showsN_range (x y : Cont) : 0 ≤ showsN x y ∧ showsN x y ≤ 3 := by
  unfold showsN
  split
  · omega
  · split
    · omega
    · split <;> omega
theorem showsN_zero {x y : Cont} : showsN x y = 0 ↔ meetB x y = true := by
  unfold showsN
  constructor
  · intro h
    split at h
    · assumption
    · split at h
      · omega
      · split at h <;> omega
  · intro h; rw [if_pos h]
theorem showsN_three {x y : Cont} (h : showsN x y = 3) : x.ahi < y.alo ∨ y.whi * x.ahi < y.alo * x.wlo := by
  unfold showsN at h
  split at h
  · omega
  · split at h
    · assumption
    · split at h <;> omega
theorem shows_more {x y z : Cont} (hx : contB x = true) (hy : contB y = true) (hz : contB z = true) (h1 : z.alo ≤ y.alo) (h2 : y.ahi ≤ z.ahi) (h3 : z.wlo ≤ y.wlo) (h4 : y.whi ≤ z.whi) : showsN x z ≤ showsN x y := by
  obtain ⟨-, ⟨x0, x1, x2⟩, x3, x4, x5⟩ := contB_t hx
  obtain ⟨-, ⟨y0, y1, y2⟩, y3, y4, y5⟩ := contB_t hy
  obtain ⟨-, ⟨z0, z1, z2⟩, z3, z4, z5⟩ := contB_t hz
  have P1 := Int.mul_le_mul_of_nonneg_right h1 x3
  have P2 := Int.mul_le_mul_of_nonneg_right h4 (show 0 ≤ x.ahi by omega)
  have P3 := Int.mul_le_mul_of_nonneg_right h3 x0
  have P4 := Int.mul_le_mul_of_nonneg_right h2 (show 0 ≤ x.whi by omega)
  have M1 := meetB_iff hx hy
  have M2 := meetB_iff hx hz
  have M : meetB x y = true → meetB x z = true := fun h => M2.2 (by have := M1.1 h; omega)
  have r := showsN_range x z
  unfold showsN
  by_cases a : meetB x z = true
  · rw [if_pos a]; have := showsN_range x y; unfold showsN at this; exact this.1
  · have b : ¬ meetB x y = true := fun h => a (M h)
    rw [if_neg a, if_neg b]
    split
    · rw [if_pos (by omega)]; omega
    · split
      · split
        · omega
        · rw [if_pos (by omega)]; omega
      · split
        · omega
        · split <;> omega
/-- a measurement that is right within more -/
def moreM (m : Reg) (k : Int) : Reg := ⟨m.day, maxZ 0 (m.vlo - k), minZ 2147483648 (m.vhi + k), m.slo, m.shi⟩
theorem moreM_ok {m : Reg} {k : Int} (hm : regB m = true) (hk : 0 ≤ k) : regB (moreM m k) = true := by
  obtain ⟨d, ⟨v0, v1, v2⟩, s⟩ := regB_t hm
  simp only [regB, Bool.and_eq_true]
  refine ⟨inB_t.2 d, spanB_t.2 ?_, spanB_t.2 s⟩
  show 0 ≤ maxZ 0 (m.vlo - k) ∧ maxZ 0 (m.vlo - k) ≤ minZ 2147483648 (m.vhi + k) ∧ minZ 2147483648 (m.vhi + k) ≤ 2147483648
  rw [maxZ_eq, minZ_eq]
  omega
theorem moreM_wider {m : Reg} {k : Int} (hm : regB m = true) (hk : 0 ≤ k) : (measC (moreM m k)).alo ≤ (measC m).alo ∧ (measC m).ahi ≤ (measC (moreM m k)).ahi ∧ (measC (moreM m k)).wlo ≤ (measC m).wlo ∧ (measC m).whi ≤ (measC (moreM m k)).whi := by
  obtain ⟨d, ⟨v0, v1, v2⟩, s0, s1, s2⟩ := regB_t hm
  have e1 : maxZ 0 (m.vlo - k) = max 0 (m.vlo - k) := maxZ_eq _ _
  have e2 : minZ 2147483648 (m.vhi + k) = min 2147483648 (m.vhi + k) := minZ_eq _ _
  refine ⟨?_, ?_, ?_, ?_⟩
  · exact partLo_mono (by show 0 ≤ maxZ 0 (m.vlo - k); omega) (by show maxZ 0 (m.vlo - k) ≤ _; omega) s0 (Int.le_refl _)
  · exact partHi_mono (by omega) (by show _ ≤ minZ 2147483648 (m.vhi + k); omega) (by omega) (Int.le_refl _)
  · exact partLo_mono (by show 0 ≤ maxZ 0 (m.vlo - k); omega) (by show maxZ 0 (m.vlo - k) ≤ _; omega) (show 0 ≤ 10000 - m.shi by omega) (Int.le_refl _)
  · exact partHi_mono (by omega) (by show _ ≤ minZ 2147483648 (m.vhi + k); omega) (show 0 ≤ 10000 - m.slo by omega) (Int.le_refl _)
theorem meetC_in {x y : Cont} (h : meetB x y = true) : (x.alo ≤ (meetC x y).alo ∧ (meetC x y).alo ≤ (meetC x y).ahi ∧ (meetC x y).ahi ≤ x.ahi) ∧ (x.wlo ≤ (meetC x y).wlo ∧ (meetC x y).wlo ≤ (meetC x y).whi ∧ (meetC x y).whi ≤ x.whi) ∧
    (y.alo ≤ (meetC x y).alo ∧ (meetC x y).ahi ≤ y.ahi) ∧ y.wlo ≤ (meetC x y).wlo ∧ (meetC x y).whi ≤ y.whi := by
  simp only [meetB, Bool.and_eq_true, decide_eq_true_eq] at h
  simp only [meetC]
  have a := maxZ_eq x.alo y.alo
  have b := minZ_eq x.ahi y.ahi
  have c := maxZ_eq x.wlo y.wlo
  have d := minZ_eq x.whi y.whi
  omega
end Go.Proofs.Ytljofnmgddfljaa
