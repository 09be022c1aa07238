/- Plain laws for HouseFound: what is measured of what is true shows Sound; of a part of it, Sound or Less; with water besides, not Wrong. No conditions beyond each theorem's own. -/
import Derived.Test.YtljofnmgddfljaaFg
import Derived.Test.YtljofnmgddfljaaFf
set_option linter.unusedVariables false
set_option linter.unusedSimpArgs false
set_option linter.unusedSectionVars false
set_option linter.constructorNameAsVariable false
namespace Go.Proofs.Ytljofnmgddfljaa
open Go.RowKit

section
variable {C : Clim} {x : Cont} {k : Nat} {F G : Nat → Int} {day : Int}
theorem found_base {m : Reg} (hE : errH C x k F G day = 0) (hm : regB m = true) (hd : m.day = day) : measE C x k F G m = 0 ∧ measA C x k F G m = dayC C F G k x (day - x.day).toNat ∧ showV C x k F G m = showsN (dayC C F G k x (day - x.day).toNat) (measC m) := by
  have e1 : measE C x k F G m = 0 := by unfold measE; rw [if_pos hm, hd]; exact hE
  have e2 : measA C x k F G m = dayC C F G k x (day - x.day).toNat := by unfold measA; rw [if_pos hm, hd]; exact atV_ok hE
  exact ⟨e1, e2, by unfold showV; rw [if_pos e1, e2]⟩
variable {a t off : Int}
theorem aroundO_true (hb : aroundB a t off = true) : aroundO day a t off = aroundM day a t off := by unfold aroundO; rw [hb]; rfl
theorem found_sound (hE : errH C x k F G day = 0) (hd : 0 ≤ day ∧ day ≤ 65536) (ho : 0 ≤ off) (h0 : 0 ≤ a) (h1 : 0 ≤ t) (hb : aroundB a t off = true) (hT : Truly (dayC C F G k x (day - x.day).toNat) a t) (hy : contB (dayC C F G k x (day - x.day).toNat) = true) :
    measE C x k F G (aroundO day a t off) = 0 ∧ measF C x k F G (aroundO day a t off) = 0 ∧ showV C x k F G (aroundO day a t off) = 0 ∧ Truly (measV C x k F G (aroundO day a t off)) a t ∧ (measV C x k F G (aroundO day a t off)).day = (dayC C F G k x (day - x.day).toNat).day := by
  rw [aroundO_true hb]
  have hm := aroundM_ok hd h0 h1 ho hb
  obtain ⟨e1, e2, e3⟩ := found_base hE hm rfl
  obtain ⟨m1, m2⟩ := met_truly hy (measC_ok hm) hT (aroundM_truly h0 h1 ho hb)
  have e4 : measF C x k F G (aroundM day a t off) = 0 := by unfold measF; rw [if_pos e1, e2, if_pos m1]
  have e5 : measV C x k F G (aroundM day a t off) = meetC (dayC C F G k x (day - x.day).toNat) (measC (aroundM day a t off)) := by unfold measV; rw [if_pos e1, e2, if_pos m1]
  exact ⟨e1, e4, by rw [e3]; exact showsN_zero.2 m1, by rw [e5]; exact m2, by rw [e5]; rfl⟩
theorem found_less {a' t' : Int} (hE : errH C x k F G day = 0) (hd : 0 ≤ day ∧ day ≤ 65536) (ho : 0 ≤ off) (h0 : 0 ≤ a') (h1 : 0 ≤ t') (hb : aroundB a' t' off = true) (hT : Truly (dayC C F G k x (day - x.day).toNat) a t) (hy : contB (dayC C F G k x (day - x.day).toNat) = true)
    (h4 : a' ≤ a) (h5 : a' * t = a * t') (h7 : t' ≤ t) : measE C x k F G (aroundO day a' t' off) = 0 ∧ (showV C x k F G (aroundO day a' t' off) = 0 ∨ showV C x k F G (aroundO day a' t' off) = 1) := by
  rw [aroundO_true hb]
  have hm := aroundM_ok hd h0 h1 ho hb
  obtain ⟨e1, e2, e3⟩ := found_base hE hm rfl
  rw [e3]
  exact ⟨e1, shows_less hy (measC_ok hm) hT (aroundM_truly h0 h1 ho hb) h0 h4 h5 h1 h7⟩
theorem found_wet {a' t' : Int} (hE : errH C x k F G day = 0) (hd : 0 ≤ day ∧ day ≤ 65536) (ho : 0 ≤ off) (h0 : 0 ≤ a') (h1 : 0 ≤ t') (hb : aroundB a' t' off = true) (hT : Truly (dayC C F G k x (day - x.day).toNat) a t) (hy : contB (dayC C F G k x (day - x.day).toNat) = true)
    (h4 : a' ≤ a) (h5 : a' * t ≤ a * t') : measE C x k F G (aroundO day a' t' off) = 0 ∧ showV C x k F G (aroundO day a' t' off) ≠ 3 := by
  rw [aroundO_true hb]
  have hm := aroundM_ok hd h0 h1 ho hb
  obtain ⟨e1, e2, e3⟩ := found_base hE hm rfl
  rw [e3]
  exact ⟨e1, shows_wet hy (measC_ok hm) hT (aroundM_truly h0 h1 ho hb) h0 h4 h5 h1⟩
/-- so many thousandths -/
theorem part_of {kk : Int} (h0 : 0 ≤ a) (h1 : 0 ≤ t) (hk : 0 ≤ kk) (hk2 : kk ≤ 1000) (ha : a * kk % 1000 = 0) (ht : t * kk % 1000 = 0) :
    (0 ≤ a * kk / 1000 ∧ a * kk / 1000 ≤ a) ∧ (0 ≤ t * kk / 1000 ∧ t * kk / 1000 ≤ t) ∧ a * kk / 1000 * t = a * (t * kk / 1000) := by
  have m1 := mul_le h0 (Int.le_refl a) hk hk2
  have m2 := mul_le h1 (Int.le_refl t) hk hk2
  have e1 : a * kk / 1000 * 1000 = a * kk := by omega
  have e2 : t * kk / 1000 * 1000 = t * kk := by omega
  refine ⟨by omega, by omega, ?_⟩
  have f1 : a * kk / 1000 * t * 1000 = a * kk * t := by rw [Int.mul_right_comm, e1]
  have f2 : a * (t * kk / 1000) * 1000 = a * (t * kk) := by rw [Int.mul_assoc, e2]
  have f3 : a * kk * t = a * (t * kk) := by rw [Int.mul_assoc, Int.mul_comm kk t]
  omega
end
end Go.Proofs.Ytljofnmgddfljaa
