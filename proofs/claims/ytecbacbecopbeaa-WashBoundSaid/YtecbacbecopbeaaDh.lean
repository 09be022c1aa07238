/- What WashBound asks, plain: the bound holds the air. No conditions beyond each theorem's own. -/
import Derived.Test.YtecbacbecopbeaaBr
set_option linter.unusedVariables false
set_option linter.unusedSimpArgs false
set_option linter.unusedSectionVars false
set_option linter.constructorNameAsVariable false
namespace Go.Proofs.Ytecbacbecopbeaa
open Go.RowKit

theorem bound_cases (a v : Int) : (boundE a v = 2 ∧ boundV a v = 0) ∨ (boundE a v = 12 ∧ boundV a v = 0 ∧ v = 0 ∧ 0 < a) ∨ (boundE a v = 0 ∧ boundB a v = true) := by
  unfold boundE boundV
  by_cases hb : boundB a v = true
  · obtain ⟨⟨a0, a1⟩, v0, v1⟩ := boundB_t hb
    by_cases ha : a = 0
    · exact .inr (.inr ⟨by rw [if_pos hb, if_pos ha], hb⟩)
    · by_cases hv : v = 0
      · exact .inr (.inl ⟨by rw [if_pos hb, if_neg ha, if_pos hv], by rw [if_neg (fun h => h.2.2 hv)], hv, by omega⟩)
      · exact .inr (.inr ⟨by rw [if_pos hb, if_neg ha, if_neg hv], hb⟩)
  · exact .inl ⟨by rw [if_neg hb], by rw [if_neg (fun h => hb h.1)]⟩

theorem bound_zero {v : Int} : boundV 0 v = 0 := by unfold boundV; rw [if_neg (fun h => h.2.1 rfl)]
theorem bound_pos {a v : Int} (hb : boundB a v = true) (he : boundE a v = 0) (ha : a ≠ 0) : v ≠ 0 ∧ boundV a v = upI (a * (1000 - v)) v := by
  have hv : v ≠ 0 := fun h => by unfold boundE at he; rw [if_pos hb, if_neg ha, if_pos h] at he; cases he
  exact ⟨hv, by unfold boundV; rw [if_pos ⟨hb, ha, hv⟩]⟩

/-- the air never passes the bound -/
theorem bound_holds_up {a v : Int} (hb : boundB a v = true) (he : boundE a v = 0) {x g : Int} (hx : 0 ≤ x ∧ x ≤ boundV a v) (hg : 0 ≤ g ∧ g ≤ a) : upI ((x + g) * (1000 - v)) 1000 ≤ boundV a v := by
  obtain ⟨⟨a0, a1⟩, v0, v1⟩ := boundB_t hb
  by_cases ha : a = 0
  · subst ha
    rw [bound_zero] at hx ⊢
    obtain rfl : x = 0 := by omega
    obtain rfl : g = 0 := by omega
    unfold upI; omega
  · obtain ⟨hv, e⟩ := bound_pos hb he ha
    have l : a * (1000 - v) ≤ boundV a v * v := by rw [e]; exact le_upI (by omega)
    refine upI_le (by omega) ?_
    have m : (x + g) * (1000 - v) ≤ (boundV a v + a) * (1000 - v) := Int.mul_le_mul_of_nonneg_right (by omega) (by omega)
    have e2 : (boundV a v + a) * (1000 - v) = boundV a v * 1000 - boundV a v * v + a * (1000 - v) := by rw [Int.add_mul, Int.mul_sub (boundV a v)]
    omega
/-- one below the bound is below what comes -/
theorem bound_least {a v : Int} (hb : boundB a v = true) (he : boundE a v = 0) (hp : 0 < boundV a v) : boundV a v ≤ upI ((boundV a v - 1 + a) * (1000 - v)) 1000 := by
  obtain ⟨⟨a0, a1⟩, v0, v1⟩ := boundB_t hb
  have ha : a ≠ 0 := fun h => by subst h; rw [bound_zero] at hp; omega
  obtain ⟨hv, e⟩ := bound_pos hb he ha
  have l : boundV a v * v ≤ a * (1000 - v) + v - 1 := by rw [e]; exact Int.ediv_mul_le _ (by omega)
  have l2 : (boundV a v - 1 + a) * (1000 - v) ≤ upI ((boundV a v - 1 + a) * (1000 - v)) 1000 * 1000 := le_upI (by omega)
  have e2 : (boundV a v - 1 + a) * (1000 - v) = boundV a v * 1000 - boundV a v * v - (1000 - v) + a * (1000 - v) := by rw [Int.add_mul, Int.sub_mul, Int.mul_sub (boundV a v)]; omega
  omega
/-- more venting, no greater bound -/
theorem bound_next {a v u : Int} (hb : boundB a v = true) (he : boundE a v = 0) (hu : v ≤ u) (h1 : 1 ≤ u) (hu2 : u ≤ 1000) : boundE a u = 0 ∧ boundV a u ≤ boundV a v := by
  obtain ⟨⟨a0, a1⟩, v0, v1⟩ := boundB_t hb
  have hbu : boundB a u = true := by unfold boundB; rw [inB_t.2 ⟨a0, a1⟩, inB_t.2 (by omega)]; rfl
  by_cases ha : a = 0
  · subst ha
    exact ⟨by unfold boundE; rw [if_pos hbu, if_pos rfl], by rw [bound_zero, bound_zero]; omega⟩
  · have hu0 : u ≠ 0 := by omega
    have eu : boundE a u = 0 := by unfold boundE; rw [if_pos hbu, if_neg ha, if_neg hu0]
    obtain ⟨hv, e⟩ := bound_pos hb he ha
    refine ⟨eu, ?_⟩
    rw [e, (bound_pos hbu eu ha).2]
    exact upI_anti (by omega) hu (Int.mul_nonneg a0 (by omega)) (Int.mul_le_mul_of_nonneg_left (by omega) a0)
/-- under a bound the air is counted to its end -/
theorem air_under {a b v sl sh : Int} {k : Nat} {F G : Nat → Int} (hk : k ≤ 200) (hv : 0 ≤ v ∧ v ≤ 1000) (hs : 0 ≤ sl ∧ sl ≤ sh ∧ sh ≤ b) (hg : ∀ i, i < k → 0 ≤ F i ∧ F i ≤ G i ∧ G i ≤ a) (ha : a ≤ 1073741824) (hb : b ≤ 1073741824)
    (st : ∀ x g, 0 ≤ x ∧ x ≤ b → 0 ≤ g ∧ g ≤ a → upI ((x + g) * (1000 - v)) 1000 ≤ b) : airE sl sh k F G v = 0 ∧ airN sl sh k F G v = k ∧ ∀ j, j ≤ k → 0 ≤ airH sh v G j ∧ airH sh v G j ≤ b := by
  have H : ∀ j, j ≤ k → 0 ≤ airH sh v G j ∧ airH sh v G j ≤ b := by
    intro j
    induction j with
    | zero => exact fun _ => ⟨by show 0 ≤ sh; omega, hs.2.2⟩
    | succ j ih =>
      intro hj
      have i := ih (by omega)
      have g := hg j (by omega)
      exact ⟨upI_nonneg (Int.mul_nonneg (by omega) (by omega)) (by omega), st _ _ i ⟨by omega, g.2.2⟩⟩
  have B : airB sl sh k F G = true := by
    unfold airB
    rw [spanB_t.2 ⟨hs.1, hs.2.1, by omega⟩, Bool.true_and]
    exact allB_t.2 fun i hi => spanB_t.2 (by have := hg i hi; omega)
  have N : ¬ okN (airOk sh v G) k < k := fun h => by
    have h1 := okN_bad (airOk sh v G) k h
    have h2 := (H (okN (airOk sh v G) k + 1) (by omega)).2
    have h3 := of_decide_eq_false (show decide (airH sh v G (okN (airOk sh v G) k + 1) ≤ 1073741824) = false from h1)
    omega
  have E : airE sl sh k F G v = 0 := by unfold airE; rw [if_neg (by omega), if_pos B, if_pos (inB_t.2 hv), if_neg N]
  exact ⟨E, by unfold airN; rw [if_pos E], H⟩
theorem airL_zero (v : Int) : ∀ j, airL 0 v (fun _ => 0) j = 0
  | 0 => rfl
  | j + 1 => by
    show (airL 0 v (fun _ => 0) j + 0) * (1000 - v) / 1000 = 0
    rw [airL_zero v j]
    simp
end Go.Proofs.Ytecbacbecopbeaa
