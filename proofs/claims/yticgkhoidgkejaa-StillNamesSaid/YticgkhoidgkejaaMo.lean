/- Plain law: what an amount can be holds what it is. No conditions beyond each theorem's own. -/
import Derived.Test.YticgkhoidgkejaaMn
set_option linter.unusedVariables false
set_option linter.unusedSimpArgs false
set_option linter.unusedSectionVars false
set_option linter.constructorNameAsVariable false
namespace Go.Proofs.Yticgkhoidgkejaa
open Go.RowKit

theorem ints_of_own {w : World} {base k : Nat} {e : TypeId} {D : Nat → Int} {v : Value} (h : w.ownsRow base e 1 v k ((List.range k).map fun j => .int .i64 (D j))) : ∃ a cap, v = .slice a k cap ∧ IntsAt w a k D := by
  rcases h.2 with ⟨rfl, h0⟩ | ⟨g, cap, cur, rfl, hg, hgb, _⟩
  · exact ⟨none, 0, by rw [h0], .inl h0⟩
  · refine ⟨_, cap, rfl, .inr ⟨g, 0, rfl, (Array.getElem?_eq_some_iff.1 hgb).1, fun i hi => ?_⟩⟩
    rw [Nat.zero_add]
    exact row_cells h i _ (by simp [hi])

theorem kind_even (b1 b2 b3 : Bool) : kindI b1 b2 b3 ≠ 1 ∧ kindI b1 b2 b3 ≤ 14 ∧ 0 ≤ kindI b1 b2 b3 ∧ (bits .and .i64 (kindI b1 b2 b3) 1 != 0) = false := by
  cases b1 <;> cases b2 <;> cases b3 <;> decide
/-- the true kind is there, and what holds of the sum -/
structure KindIn (kd kind : Int) : Prop where
  e1 : (kd == 1) = false
  e2 : (bits .and .i64 kd kind == 0) = false
  e3 : 1 ≤ kd
  e4 : kd ≤ 14
  e5 : (bits .and .i64 kd 1 != 0) = false
theorem kindIn_2 (b2 b3 : Bool) : KindIn (kindI true b2 b3) 2 := by cases b2 <;> cases b3 <;> exact ⟨by decide, by decide, by decide, by decide, by decide⟩
theorem kindIn_4 (b1 b3 : Bool) : KindIn (kindI b1 true b3) 4 := by cases b1 <;> cases b3 <;> exact ⟨by decide, by decide, by decide, by decide, by decide⟩
theorem kindIn_8 (b1 b2 : Bool) : KindIn (kindI b1 b2 true) 8 := by cases b1 <;> cases b2 <;> exact ⟨by decide, by decide, by decide, by decide, by decide⟩

section
variable {d : Dr3} {cut en X : Int} (h1 : 1 ≤ d.d) (hl : d.lo * 10000 ≤ X) (hh : X ≤ d.hi * 10000)
include h1 hl hh
theorem hi_ge {t : Int} (h : t * d.d ≤ X) : t ≤ dHi d := by
  have h2 : d.hi * 10000 ≤ dHi d * d.d := le_upI h1
  exact Int.le_of_mul_le_mul_right (show t * d.d ≤ dHi d * d.d by omega) (by omega)
theorem lo_lt {t : Int} (h : X < t * d.d) : dLo d < t := Int.ediv_lt_of_lt_mul (by omega) (by omega)
theorem kind_2 (h : cut * d.d ≤ X) : KindIn (kindD d cut en) 2 := by
  unfold kindD
  rw [show decide (cut ≤ dHi d) = true by simpa using hi_ge h1 hl hh h]
  exact kindIn_2 _ _
theorem kind_4 (h : X < cut * d.d) (h' : en * d.d ≤ X) : KindIn (kindD d cut en) 4 := by
  unfold kindD
  rw [show decide (dLo d < cut) = true by simpa using lo_lt h1 hl hh h, show decide (en ≤ dHi d) = true by simpa using hi_ge h1 hl hh h']
  exact kindIn_4 _ _
theorem kind_8 (h' : X < en * d.d) : KindIn (kindD d cut en) 8 := by
  unfold kindD
  rw [show decide (dLo d < en) = true by simpa using lo_lt h1 hl hh h']
  exact kindIn_8 _ _
end
theorem kind_alone {d : Dr3} {cut en : Int} (h1 : 1 ≤ d.d) (hlh : d.lo ≤ d.hi) (he : en ≤ cut) (h : cut * d.d ≤ d.lo * 10000) : kindD d cut en = 2 := by
  have a : cut ≤ dLo d := by
    have := Int.ediv_le_ediv (show 0 < d.d by omega) h
    rwa [Int.mul_ediv_cancel _ (by omega)] at this
  have b : dLo d ≤ dHi d := by unfold dLo dHi upI; exact Int.ediv_le_ediv (by omega) (by omega)
  unfold kindD
  rw [show decide (cut ≤ dHi d) = true by simp; omega, show decide (dLo d < cut) = false by simp; omega, show decide (dLo d < en) = false by simp; omega]
  simp only [Bool.false_and]
  decide
/-- which kind an amount truly is, and the tests that tell it -/
theorem kind_cases {d : Dr3} {cut en X : Int} (h1 : 1 ≤ d.d) (hl : d.lo * 10000 ≤ X) (hh : X ≤ d.hi * 10000) (hlh : d.lo ≤ d.hi) (he : en ≤ cut) :
    (KindIn (kindD d cut en) 2 ∧ cut * d.d ≤ X ∧ (cut * d.d ≤ d.lo * 10000 ∧ (kindD d cut en != 2) = false)) ∨
    (KindIn (kindD d cut en) 2 ∧ cut * d.d ≤ X ∧ ¬ cut * d.d ≤ d.lo * 10000) ∨
    (KindIn (kindD d cut en) 4 ∧ ¬ cut * d.d ≤ X ∧ en * d.d ≤ X ∧ ¬ cut * d.d ≤ d.lo * 10000) ∨
    (KindIn (kindD d cut en) 8 ∧ ¬ cut * d.d ≤ X ∧ ¬ en * d.d ≤ X ∧ ¬ cut * d.d ≤ d.lo * 10000) := by
  by_cases c1 : cut * d.d ≤ X
  · by_cases c2 : cut * d.d ≤ d.lo * 10000
    · exact .inl ⟨kind_2 h1 hl hh c1, c1, c2, by rw [kind_alone h1 hlh he c2]; decide⟩
    · exact .inr (.inl ⟨kind_2 h1 hl hh c1, c1, c2⟩)
  · by_cases c3 : en * d.d ≤ X
    · exact .inr (.inr (.inl ⟨kind_4 h1 hl hh (by omega) c3, c1, c3, by omega⟩))
    · exact .inr (.inr (.inr ⟨kind_8 h1 hl hh (by omega), c1, c3, by omega⟩))
end Go.Proofs.Yticgkhoidgkejaa
