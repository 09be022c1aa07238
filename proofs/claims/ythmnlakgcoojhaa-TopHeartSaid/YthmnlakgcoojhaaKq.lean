/- Plain laws of the heart of a run. No conditions. -/
import Derived.Test.YthmnlakgcoojhaaGh
set_option linter.unusedVariables false
set_option linter.unusedSimpArgs false
set_option linter.unusedSectionVars false
set_option linter.constructorNameAsVariable false
namespace Go.Proofs.Ythmnlakgcoojhaa.L4

def lsum (D : Nat → Dr3) (f : Nat) : Nat → Int
  | 0 => 0
  | j + 1 => lsum D f j + (D (f + j)).lo
def asum (D : Nat → Dr3) (f : Nat) : Nat → Int
  | 0 => 0
  | j + 1 => asum D f j + (D (f + j)).d
theorem heartO_sums (D : Nat → Dr3) (f : Nat) (t : Int) : ∀ j, heartO D f t j = lsum D f j * 10000 - t * asum D f j
  | 0 => by simp [heartO, lsum, asum]
  | j + 1 => by unfold heartO lsum asum; rw [heartO_sums D f t j, Int.add_mul, Int.mul_add]; omega
theorem heartB_spec (D : Nat → Dr3) (f : Nat) (t : Int) : ∀ J : Nat, (heartB D f t J = -1 ∨ ∃ j, j < J ∧ heartB D f t J = f + j ∧ 0 ≤ heartO D f t (j + 1)) ∧ ∀ j, j < J → heartB D f t J < f + j → heartO D f t (j + 1) < 0
  | 0 => ⟨.inl rfl, fun j hj => by omega⟩
  | J + 1 => by
    have ih := heartB_spec D f t J
    by_cases h : 0 ≤ heartO D f t (J + 1)
    · have e : heartB D f t (J + 1) = f + J := by conv => lhs; unfold heartB; rw [if_pos h]
      rw [e]
      exact ⟨.inr ⟨J, by omega, rfl, h⟩, fun j hj hl => by omega⟩
    · have e : heartB D f t (J + 1) = heartB D f t J := by conv => lhs; unfold heartB; rw [if_neg h]
      rw [e]
      refine ⟨ih.1.imp id fun ⟨j, h1, h2⟩ => ⟨j, by omega, h2⟩, fun j hj hl => ?_⟩
      by_cases hJ : j = J
      · rw [hJ]; omega
      · exact ih.2 j (by omega) hl
theorem sum_bound {D : Nat → Dr3} {f : Nat} : ∀ j : Nat, (∀ i, i < j → 0 ≤ (D (f + i)).lo ∧ (D (f + i)).lo ≤ 1073741824 ∧ 0 ≤ (D (f + i)).d ∧ (D (f + i)).d ≤ 1073741824) →
    0 ≤ lsum D f j ∧ lsum D f j ≤ j * 1073741824 ∧ 0 ≤ asum D f j ∧ asum D f j ≤ j * 1073741824
  | 0, _ => by simp [lsum, asum]
  | j + 1, h => by
    have ih := sum_bound j fun i hi => h i (by omega)
    obtain ⟨h1, h2, h3, h4⟩ := h j (by omega)
    unfold lsum asum
    have e : ((j + 1 : Nat) : Int) * 1073741824 = j * 1073741824 + 1073741824 := by rw [Int.natCast_add, Int.add_mul]; simp
    omega
theorem heartErr_ne {m : Nat} {c : Crv} {p : Pot3} {M : Nat → Int} {k : Nat} {f t : Int} : heartErr m c p M k f t ≠ 4 := by
  unfold heartErr
  split
  · unfold earlyE
    split
    · omega
    · split <;> omega
  · split
    · unfold runErr
      split
      · unfold earlyE
        split
        · omega
        · split <;> omega
      · split
        · rcases errD_cases (c.potAt p M (c.stop p M k)) (M (c.stop p M k)) with h | h | h
          · show errD _ _ ≠ 4; omega
          · show errD _ _ ≠ 4; omega
          · show errD _ _ ≠ 4; omega
        · omega
    · omega
end Go.Proofs.Ythmnlakgcoojhaa.L4
