/- Plain words: the place of a number in a rising list; lines through points. No conditions. -/
import Derived.Test.YtnmldophadanbaaKc
set_option linter.unusedVariables false
set_option linter.unusedSimpArgs false
set_option linter.unusedSectionVars false
set_option linter.constructorNameAsVariable false
namespace Go.Proofs.Ytnmldophadanbaa

/-- how many of the first numbers are below x, up to the first that is not -/
def lb (L : Nat → Int) (x : Int) : Nat → Nat
  | 0 => 0
  | n + 1 => if lb L x n = n ∧ L n < x then n + 1 else lb L x n

theorem lb_le (L : Nat → Int) (x : Int) : ∀ n, lb L x n ≤ n
  | 0 => Nat.le_refl _
  | n + 1 => by unfold lb; have := lb_le L x n; split <;> omega
theorem lb_lt (L : Nat → Int) (x : Int) : ∀ n t, t < lb L x n → L t < x
  | 0, t, h => by simp [lb] at h
  | n + 1, t, h => by
    unfold lb at h
    split at h
    · rename_i hc
      by_cases e : t = n
      · rw [e]; exact hc.2
      · exact lb_lt L x n t (by rw [hc.1]; omega)
    · exact lb_lt L x n t h
theorem lb_stop (L : Nat → Int) (x : Int) : ∀ n, lb L x n < n → ¬ L (lb L x n) < x
  | 0, h => by simp at h
  | n + 1, h => by
    unfold lb at h ⊢
    split
    · rename_i hc; simp only [hc, and_self, if_true] at h; omega
    · rename_i hc
      simp only [hc, if_false] at h
      by_cases e : lb L x n = n
      · rw [e]; exact fun hx => hc ⟨e, hx⟩
      · exact lb_stop L x n (by have := lb_le L x n; omega)
theorem lb_unique {L : Nat → Int} {x : Int} {n i : Nat} (hi : i ≤ n) (h1 : ∀ t, t < i → L t < x) (h2 : i < n → ¬ L i < x) : i = lb L x n := by
  have a := lb_le L x n
  rcases Nat.lt_trichotomy i (lb L x n) with h | h | h
  · exact absurd (lb_lt L x n i h) (h2 (by omega))
  · exact h
  · exact absurd (h1 _ h) (lb_stop L x n (by omega))

/-- whether x is there -/
def foundB (L : Nat → Int) (x : Int) (n : Nat) : Bool := decide (lb L x n < n) && decide (L (lb L x n) = x)

/-- a valid curve -/
structure Good (n : Nat) (L A B : Nat → Int) : Prop where
  two : 2 ≤ n
  most : n ≤ 32
  zero : L 0 = 0
  last : L (n - 1) = 10000
  low : A 0 = 0
  inc : ∀ i, i + 1 < n → L i < L (i + 1)
  incA : ∀ i, i + 1 < n → A i ≤ A (i + 1)
  incB : ∀ i, i + 1 < n → B i ≤ B (i + 1)
  span : ∀ i, i < n → L i ≤ A i ∧ A i ≤ B i ∧ B i ≤ 10000

theorem good_of {n m : Nat} {L A B : Nat → Int} (h : curveB n m L A B = true) : m = n ∧ Good n L A B := by
  simp only [curveB, headB, Bool.and_eq_true, decide_eq_true_eq, List.all_eq_true, List.mem_range] at h
  obtain ⟨⟨h1, h2, h3, h4, h5⟩, h6⟩ := h
  have hr := inB_t.1 h1
  have key : ∀ i, i < n → spanB (A i) (B i) (L i) 10000 = true ∧ (i = 0 ∨ (L (i - 1) < L i ∧ A (i - 1) ≤ A i ∧ B (i - 1) ≤ B i)) := fun i hi => by
    have := h6 i hi
    simp only [okB, stepB, Bool.and_eq_true, Bool.or_eq_true, decide_eq_true_eq, Bool.not_eq_true', Bool.or_eq_false_iff, decide_eq_false_iff_not] at this
    refine ⟨this.1, this.2.imp id fun h => by omega⟩
  refine ⟨h2, by omega, by omega, h3, h4, h5, fun i hi => ?_, fun i hi => ?_, fun i hi => ?_, fun i hi => spanB_t.1 (key i hi).1⟩
  all_goals
    have := (key (i + 1) hi).2
    simp only [Nat.add_sub_cancel] at this
    omega

theorem mono_of {n : Nat} {L : Nat → Int} (h : ∀ i, i + 1 < n → L i ≤ L (i + 1)) : ∀ s t, s ≤ t → t < n → L s ≤ L t := fun s t hst => by
  induction t with
  | zero => intro _; rw [Nat.le_zero.1 hst]; exact Int.le_refl _
  | succ t ih =>
    intro ht
    rcases Nat.lt_or_eq_of_le hst with h' | h'
    · exact Int.le_trans (ih (by omega) (by omega)) (h t ht)
    · rw [h']; exact Int.le_refl _

theorem Good.mono {n : Nat} {L A B : Nat → Int} (g : Good n L A B) : ∀ s t, s ≤ t → t < n → L s ≤ L t := mono_of fun i hi => Int.le_of_lt (g.inc i hi)
theorem Good.monoA {n : Nat} {L A B : Nat → Int} (g : Good n L A B) : ∀ s t, s ≤ t → t < n → A s ≤ A t := mono_of g.incA
theorem Good.monoB {n : Nat} {L A B : Nat → Int} (g : Good n L A B) : ∀ s t, s ≤ t → t < n → B s ≤ B t := mono_of g.incB
theorem Good.range {n : Nat} {L A B : Nat → Int} (g : Good n L A B) (i : Nat) (hi : i < n) : 0 ≤ L i ∧ L i ≤ 10000 ∧ 0 ≤ A i ∧ A i ≤ 10000 ∧ 0 ≤ B i ∧ B i ≤ 10000 := by
  have h1 := g.mono 0 i (Nat.zero_le _) hi
  have h2 := g.mono i (n - 1) (by omega) (by omega)
  have h3 := g.span i hi
  rw [g.zero] at h1; rw [g.last] at h2
  omega

/-- the first one of the two points between which x lies -/
def segI (L : Nat → Int) (n : Nat) (x : Int) : Nat := min (if foundB L x n then lb L x n else lb L x n - 1) (n - 2)
def lineDen (L : Nat → Int) (n : Nat) (x : Int) : Int := L (segI L n x + 1) - L (segI L n x)
def lineNum (L E : Nat → Int) (n : Nat) (x : Int) : Int :=
  E (segI L n x) * lineDen L n x + (E (segI L n x + 1) - E (segI L n x)) * (x - L (segI L n x))

theorem Good.found_le {n : Nat} {L A B : Nat → Int} (_ : Good n L A B) {x : Int} (h : foundB L x n = true) : lb L x n < n ∧ L (lb L x n) = x := by simpa [foundB] using h
theorem Good.lost {n : Nat} {L A B : Nat → Int} (g : Good n L A B) {x : Int} (h0 : 0 ≤ x) (h1 : x ≤ 10000) (h : foundB L x n = false) : 1 ≤ lb L x n ∧ lb L x n ≤ n - 1 ∧ L (lb L x n - 1) < x ∧ x < L (lb L x n) := by
  have a := lb_le L x n
  have t := g.two
  have hl : lb L x n < n := by
    rcases Nat.lt_or_ge (lb L x n) n with h' | h'
    · exact h'
    · have := lb_lt L x n (n - 1) (by omega)
      rw [g.last] at this; omega
  have hs := lb_stop L x n hl
  have hne : ¬ L (lb L x n) = x := by intro e; simp [foundB, hl, e] at h
  have h1' : 1 ≤ lb L x n := by
    rcases Nat.eq_zero_or_pos (lb L x n) with e | e
    · rw [e, g.zero] at hs hne; omega
    · exact e
  exact ⟨h1', by omega, lb_lt L x n _ (by omega), by omega⟩

/-- the point's index, and that x lies there -/
theorem Good.seg {n : Nat} {L A B : Nat → Int} (g : Good n L A B) {x : Int} (h0 : 0 ≤ x) (h1 : x ≤ 10000) : segI L n x + 1 < n ∧ L (segI L n x) ≤ x ∧ x ≤ L (segI L n x + 1) := by
  have t := g.two
  cases h : foundB L x n with
  | true =>
    obtain ⟨a, b⟩ := g.found_le h
    unfold segI; simp only [h, if_true]
    by_cases c : lb L x n ≤ n - 2
    · rw [Nat.min_eq_left c]
      have := g.mono (lb L x n) (lb L x n + 1) (by omega) (by omega)
      exact ⟨by omega, by omega, by omega⟩
    · rw [Nat.min_eq_right (by omega)]
      have e : lb L x n = n - 2 + 1 := by omega
      have := g.mono (n - 2) (n - 2 + 1) (by omega) (by omega)
      rw [e] at b
      exact ⟨by omega, by omega, by omega⟩
  | false =>
    obtain ⟨a, b, c, d⟩ := g.lost h0 h1 h
    unfold segI
    rw [if_neg (by rw [h]; simp), Nat.min_eq_left (by omega)]
    have e : lb L x n - 1 + 1 = lb L x n := by omega
    rw [e]
    exact ⟨by omega, by omega, by omega⟩
end Go.Proofs.Ytnmldophadanbaa
