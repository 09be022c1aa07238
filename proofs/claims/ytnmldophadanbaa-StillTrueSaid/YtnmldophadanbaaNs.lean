/- Plain law: whatever the vapour is, within the curve, at each moment, what is drawn and what stays are within the spans. No conditions beyond each theorem's own. -/
import Derived.Test.YtnmldophadanbaaNp
set_option linter.unusedVariables false
set_option linter.unusedSimpArgs false
set_option linter.unusedSectionVars false
set_option linter.constructorNameAsVariable false
namespace Go.Proofs.Ytnmldophadanbaa

theorem mul_le_cancel {a b c : Int} (hc : 0 < c) (h : a * c ≤ b * c) : a ≤ b := Int.le_of_mul_le_mul_right h hc

section
variable {n : Nat} {L A B E : Nat → Int} {i : Nat} {num den : Int}
theorem rseg_ends (g : Good n L A B) (hs : RSeg L n i num den) (h0 : 0 ≤ num) (h1 : num ≤ 10000 * den) (h2 : 1 ≤ den) : L i * den ≤ num ∧ num ≤ L (i + 1) * den := by
  obtain ⟨lt, le, stop⟩ := hs
  constructor
  · cases i with
    | zero => rw [g.zero]; omega
    | succ i => exact (le i (by omega)).2
  · by_cases h : i + 2 < n
    · have := fun h3 => stop ⟨h, h3⟩
      omega
    · have e : i + 1 = n - 1 := by omega
      rw [e, g.last]; omega
theorem rnum_mean (L E : Nat → Int) (i : Nat) (num den : Int) : rnum L E i num den = E i * (L (i + 1) * den - num) + E (i + 1) * (num - L i * den) := by
  unfold rnum
  rw [Int.mul_assoc, Int.sub_mul (L (i + 1)) (L i) den]
  generalize L (i + 1) * den = b
  generalize L i * den = a
  rw [Int.sub_mul, Int.mul_sub, Int.mul_sub, Int.mul_sub, Int.mul_sub]
  omega
theorem rden_eq (L : Nat → Int) (i : Nat) (den : Int) : rden L i den = L (i + 1) * den - L i * den := by unfold rden; rw [Int.sub_mul]
theorem rden_pos (g : Good n L A B) (hs : RSeg L n i num den) (h2 : 1 ≤ den) : 1 ≤ rden L i den := by
  unfold rden
  have := g.inc i hs.lt
  have : 1 * 1 ≤ (L (i + 1) - L i) * den := Int.mul_le_mul (by omega) h2 (by omega) (by omega)
  omega
theorem rnum_range (g : Good n L A B) (hs : RSeg L n i num den) (h0 : 0 ≤ num) (h1 : num ≤ 10000 * den) (h2 : 1 ≤ den) (hE : ∀ i, i < n → 0 ≤ E i ∧ E i ≤ 10000) : 0 ≤ rnum L E i num den ∧ rnum L E i num den ≤ 10000 * rden L i den := by
  obtain ⟨e1, e2⟩ := rseg_ends g hs h0 h1 h2
  have lt := hs.lt
  have a := hE i (by omega)
  have b := hE (i + 1) lt
  rw [rnum_mean, rden_eq]
  have m1 : 0 ≤ E i * (L (i + 1) * den - num) := Int.mul_nonneg a.1 (by omega)
  have m2 : 0 ≤ E (i + 1) * (num - L i * den) := Int.mul_nonneg b.1 (by omega)
  have m3 : E i * (L (i + 1) * den - num) ≤ 10000 * (L (i + 1) * den - num) := Int.mul_le_mul_of_nonneg_right a.2 (by omega)
  have m4 : E (i + 1) * (num - L i * den) ≤ 10000 * (num - L i * den) := Int.mul_le_mul_of_nonneg_right b.2 (by omega)
  omega
theorem rden_le (g : Good n L A B) (hs : RSeg L n i num den) (h2 : 1 ≤ den) : rden L i den ≤ 10000 * den := by
  unfold rden
  have lt := hs.lt
  have a := g.range i (by omega)
  have b := g.range (i + 1) lt
  exact Int.mul_le_mul_of_nonneg_right (by omega) (by omega)
/-- at a strength that is not above it the line is not above it -/
theorem rlo_ge (g : Good n L A B) (hE : ∀ i, i + 1 < n → E i ≤ E (i + 1)) (hs : RSeg L n i num den) (h0 : 0 ≤ num) (h1 : num ≤ 10000 * den) (h2 : 1 ≤ den) {x : Int} (x0 : 0 ≤ x) (x1 : x ≤ 10000) (hx : x * den ≤ num) :
    vapLo L E n x * rden L i den ≤ rnum L E i num den := by
  obtain ⟨e1, e2⟩ := rseg_ends g hs h0 h1 h2
  obtain ⟨s1, s2, s3⟩ := g.seg x0 x1
  have lt := hs.lt
  have d := g.den x0 x1
  have dp := rden_pos g hs h2
  rcases Nat.lt_trichotomy (segI L n x) i with h | h | h
  · have a := (line_ends g hE x0 x1).2
    have a' : vapLo L E n x ≤ E (segI L n x + 1) := by
      have := Int.ediv_le_ediv (show 0 < lineDen L n x by omega) a
      rwa [Int.mul_ediv_cancel _ (by omega)] at this
    have m := mono_of hE (segI L n x + 1) i h (by omega)
    have q : vapLo L E n x * rden L i den ≤ E i * rden L i den := Int.mul_le_mul_of_nonneg_right (by omega) (by omega)
    rw [rnum_mean, rden_eq] at *
    have m1 : 0 ≤ (E (i + 1) - E i) * (num - L i * den) := Int.mul_nonneg (by have := hE i lt; omega) (by omega)
    rw [Int.sub_mul] at m1
    have m2 : E i * (L (i + 1) * den - L i * den) = E i * (L (i + 1) * den - num) + E i * (num - L i * den) := by rw [← Int.mul_add]; congr 1; omega
    omega
  · have q1 : vapLo L E n x * lineDen L n x ≤ lineNum L E n x := Int.ediv_mul_le _ (by omega)
    have q2 : vapLo L E n x * lineDen L n x * den ≤ lineNum L E n x * den := Int.mul_le_mul_of_nonneg_right q1 (by omega)
    have q3 : lineNum L E n x * den = E i * (L (i + 1) * den - x * den) + E (i + 1) * (x * den - L i * den) := by
      unfold lineNum
      rw [h, line_mean, Int.add_mul, Int.mul_assoc, Int.mul_assoc]
      congr 2
      · rw [← Int.sub_mul]; congr 1; unfold lineDen; rw [h]; omega
      · rw [← Int.sub_mul]
    have q4 : rden L i den = lineDen L n x * den := by unfold rden lineDen; rw [h]
    rw [q4, ← Int.mul_assoc]
    refine Int.le_trans q2 ?_
    rw [q3, rnum_mean]
    have m1 : 0 ≤ (E (i + 1) - E i) * (num - x * den) := Int.mul_nonneg (by have := hE i lt; omega) (by omega)
    rw [Int.sub_mul, Int.mul_sub, Int.mul_sub] at m1
    rw [Int.mul_sub, Int.mul_sub, Int.mul_sub, Int.mul_sub]
    omega
  · exfalso
    have m := g.mono (i + 1) (segI L n x) h (by omega)
    have : L (i + 1) * den ≤ x * den := Int.mul_le_mul_of_nonneg_right (by omega) (by omega)
    exact hs.stop ⟨by omega, by omega⟩
/-- at a strength that is not below it the line is not below it -/
theorem rhi_le (g : Good n L A B) (hE : ∀ i, i + 1 < n → E i ≤ E (i + 1)) (hs : RSeg L n i num den) (h0 : 0 ≤ num) (h1 : num ≤ 10000 * den) (h2 : 1 ≤ den) {x : Int} (x0 : 0 ≤ x) (x1 : x ≤ 10000) (hx : num ≤ x * den) :
    rnum L E i num den ≤ vapHi L E n x * rden L i den := by
  obtain ⟨e1, e2⟩ := rseg_ends g hs h0 h1 h2
  obtain ⟨s1, s2, s3⟩ := g.seg x0 x1
  have lt := hs.lt
  have d := g.den x0 x1
  have dp := rden_pos g hs h2
  have up : rnum L E i num den ≤ E (i + 1) * rden L i den := by
    rw [rnum_mean, rden_eq]
    have m1 : 0 ≤ (E (i + 1) - E i) * (L (i + 1) * den - num) := Int.mul_nonneg (by have := hE i lt; omega) (by omega)
    rw [Int.sub_mul] at m1
    have m2 : E (i + 1) * (L (i + 1) * den - L i * den) = E (i + 1) * (L (i + 1) * den - num) + E (i + 1) * (num - L i * den) := by rw [← Int.mul_add]; congr 1; omega
    omega
  have hv : E (segI L n x) ≤ vapHi L E n x := by
    have a := (line_ends g hE x0 x1).1
    have h3 := le_upI (a := lineNum L E n x) (show 1 ≤ lineDen L n x by omega)
    exact Int.le_of_mul_le_mul_right (Int.le_trans a h3) (by omega)
  rcases Nat.lt_trichotomy i (segI L n x) with h | h | h
  · have m := mono_of hE (i + 1) (segI L n x) h (by omega)
    exact Int.le_trans up (Int.mul_le_mul_of_nonneg_right (by omega) (by omega))
  · have q1 : lineNum L E n x ≤ vapHi L E n x * lineDen L n x := le_upI (by omega)
    have q2 : lineNum L E n x * den ≤ vapHi L E n x * lineDen L n x * den := Int.mul_le_mul_of_nonneg_right q1 (by omega)
    have q3 : lineNum L E n x * den = E i * (L (i + 1) * den - x * den) + E (i + 1) * (x * den - L i * den) := by
      unfold lineNum
      rw [← h, line_mean, Int.add_mul, Int.mul_assoc, Int.mul_assoc]
      congr 2
      · rw [← Int.sub_mul]; congr 1; unfold lineDen; rw [← h]; omega
      · rw [← Int.sub_mul]
    have q4 : rden L i den = lineDen L n x * den := by unfold rden lineDen; rw [← h]
    rw [q4, ← Int.mul_assoc]
    refine Int.le_trans ?_ q2
    rw [q3, rnum_mean]
    have m1 : 0 ≤ (E (i + 1) - E i) * (x * den - num) := Int.mul_nonneg (by have := hE i lt; omega) (by omega)
    rw [Int.sub_mul, Int.mul_sub, Int.mul_sub] at m1
    rw [Int.mul_sub, Int.mul_sub, Int.mul_sub, Int.mul_sub]
    omega
  · have m := g.mono (segI L n x + 1) i h (by omega)
    have m2 : L (segI L n x + 1) * den ≤ L i * den := Int.mul_le_mul_of_nonneg_right m (by omega)
    have m3 : x * den ≤ L (segI L n x + 1) * den := Int.mul_le_mul_of_nonneg_right s3 (by omega)
    have ex : x * den = L i * den := by omega
    have ex' : x = L i := Int.eq_of_mul_eq_mul_right (by omega) ex
    have ei : i = segI L n x + 1 := by
      rcases Nat.lt_or_ge (segI L n x + 1) i with h4 | h4
      · have := g.strict _ _ h4 (by omega); omega
      · omega
    have hv2 : E i ≤ vapHi L E n x := by
      have q1 : lineNum L E n x ≤ vapHi L E n x * lineDen L n x := le_upI (by omega)
      have q2 : lineNum L E n x = E i * lineDen L n x := by
        unfold lineNum
        rw [line_mean, ← ei]
        have : x - L (segI L n x) = lineDen L n x := by unfold lineDen; rw [← ei]; omega
        rw [this]; simp
      rw [q2] at q1
      exact mul_le_cancel (by omega) q1
    have q : rnum L E i num den = E i * rden L i den := by
      rw [rnum_mean, rden_eq, show num - L i * den = 0 by omega, show num = L i * den by omega]; simp
    rw [q]
    exact Int.mul_le_mul_of_nonneg_right hv2 (by omega)
/-- the vapour is not weaker than the liquid -/
theorem rlo_self (g : Good n L A B) (hs : RSeg L n i num den) (h0 : 0 ≤ num) (h1 : num ≤ 10000 * den) (h2 : 1 ≤ den) : num * rden L i den ≤ rnum L A i num den * den := by
  obtain ⟨e1, e2⟩ := rseg_ends g hs h0 h1 h2
  have lt := hs.lt
  have a := (g.span i (by omega)).1
  have b := (g.span (i + 1) lt).1
  have q1 : rnum L L i num den ≤ rnum L A i num den := by
    rw [rnum_mean, rnum_mean]
    have m1 := Int.mul_le_mul_of_nonneg_right a (show 0 ≤ L (i + 1) * den - num by omega)
    have m2 := Int.mul_le_mul_of_nonneg_right b (show 0 ≤ num - L i * den by omega)
    omega
  have q2 : rnum L L i num den = (L (i + 1) - L i) * num := by
    rw [rnum_mean, Int.mul_sub, Int.mul_sub, Int.sub_mul]
    have : L i * (L (i + 1) * den) = L (i + 1) * (L i * den) := by rw [← Int.mul_assoc, ← Int.mul_assoc, Int.mul_comm (L i)]
    omega
  have q3 : num * rden L i den = (L (i + 1) - L i) * num * den := by unfold rden; rw [← Int.mul_assoc, Int.mul_comm num]
  rw [q3, ← q2]
  exact Int.mul_le_mul_of_nonneg_right q1 (by omega)
end

/-- what can rise within a millilitre: V millilitres with A millionths, of which x -/
structure GStep (c : Crv) (V A x : Int) : Prop where
  x0 : 0 ≤ x
  xA : x ≤ A
  rest : A - x ≤ 1000000 * (V - 1)
  mono : A ≤ V * x
  lo : ∀ y, 0 ≤ y → y ≤ 10000 → y * (100 * V) ≤ A → 100 * vapLo c.L c.A c.n y ≤ x
  hi : 1 < V → ∀ y, 0 ≤ y → y ≤ 10000 → max 0 (A - 1000000) ≤ y * (100 * (V - 1)) → x ≤ 100 * vapHi c.L c.B c.n y

theorem gstep_of {c : Crv} {V A x : Int} {i : Nat} (g : Good c.n c.L c.A c.B) (hV : 1 ≤ V) (hA : 0 ≤ A) (hAV : A ≤ 1000000 * V) (hs : RSeg c.L c.n i A (100 * V))
    (h1 : rnum c.L c.A i A (100 * V) * 100 ≤ x * rden c.L i (100 * V)) (h2 : A - x ≤ 1000000 * (V - 1)) (h3 : x ≤ A)
    (h4 : 1 < V → ∃ j, RSeg c.L c.n j (max 0 (A - 1000000)) (100 * (V - 1)) ∧ x * rden c.L j (100 * (V - 1)) ≤ rnum c.L c.B j (max 0 (A - 1000000)) (100 * (V - 1)) * 100) : GStep c V A x := by
  have r := rnum_range (E := c.A) g hs hA (by omega) (by omega) (fun i hi => by have := g.range i hi; omega)
  have dp := rden_pos g hs (by omega)
  have x0 : 0 ≤ x := by
    rcases Int.lt_or_le x 0 with h | h
    · have := Int.mul_neg_of_neg_of_pos h (show 0 < rden c.L i (100 * V) by omega)
      omega
    · exact h
  refine ⟨x0, h3, h2, ?_, fun y y0 y1 hy => ?_, fun hV1 y y0 y1 hy => ?_⟩
  · have s := rlo_self g hs hA (by omega) (by omega)
    have t : rnum c.L c.A i A (100 * V) * 100 * V ≤ x * rden c.L i (100 * V) * V := Int.mul_le_mul_of_nonneg_right h1 (by omega)
    refine mul_le_cancel (show 0 < rden c.L i (100 * V) by omega) ?_
    have e1 : rnum c.L c.A i A (100 * V) * (100 * V) = rnum c.L c.A i A (100 * V) * 100 * V := by rw [Int.mul_assoc]
    have e2 : V * x * rden c.L i (100 * V) = x * rden c.L i (100 * V) * V := by rw [Int.mul_comm V x, Int.mul_assoc, Int.mul_comm V, ← Int.mul_assoc]
    omega
  · have s := rlo_ge g g.incA hs hA (by omega) (by omega) y0 y1 hy
    refine mul_le_cancel (show 0 < rden c.L i (100 * V) by omega) ?_
    have e : 100 * vapLo c.L c.A c.n y * rden c.L i (100 * V) = vapLo c.L c.A c.n y * rden c.L i (100 * V) * 100 := by rw [Int.mul_assoc, Int.mul_comm 100]
    omega
  · obtain ⟨j, hj, hx⟩ := h4 hV1
    have s := rhi_le g g.incB hj (by omega) (by omega) (by omega) y0 y1 hy
    have dp2 := rden_pos g hj (by omega)
    refine mul_le_cancel (show 0 < rden c.L j (100 * (V - 1)) by omega) ?_
    have e : 100 * vapHi c.L c.B c.n y * rden c.L j (100 * (V - 1)) = vapHi c.L c.B c.n y * rden c.L j (100 * (V - 1)) * 100 := by rw [Int.mul_assoc, Int.mul_comm 100]
    omega

/-- millilitre by millilitre -/
def GRun (c : Crv) (V A : Int) : Nat → Int → Prop
  | 0, A' => A' = A
  | k + 1, A'' => ∃ A' x, GRun c V A k A' ∧ GStep c (V - k) A' x ∧ A'' = A' - x

theorem grun_inv {c : Crv} {V A : Int} (hA : 0 ≤ A) (hAV : A ≤ 1000000 * V) : ∀ (k : Nat) (A' : Int), (k : Int) ≤ V → GRun c V A k A' → 0 ≤ A' ∧ A' ≤ 1000000 * (V - k) ∧ A' * V ≤ A * (V - k) ∧ A' ≤ A
  | 0, A', hk, h => by
    have h : A' = A := h
    subst h
    refine ⟨hA, by simpa using hAV, by simp, Int.le_refl _⟩
  | k + 1, A'', hk, h => by
    obtain ⟨A', x, h1, s, rfl⟩ := h
    obtain ⟨i1, i2, i3, i4⟩ := grun_inv hA hAV k A' (by omega) h1
    have s1 := s.x0; have s2 := s.xA; have s3 := s.rest; have s4 := s.mono
    refine ⟨by omega, by omega, ?_, by omega⟩
    -- (A' - x) * (V - k) ≤ A' * (V - k - 1)
    have e1 : (A' - x) * (V - k) ≤ A' * (V - k - 1) := by
      rw [Int.sub_mul, Int.mul_sub A' (V - k) 1, Int.mul_comm x]; omega
    rcases Int.lt_or_le 0 (V - k) with hp | hp
    · refine mul_le_cancel hp ?_
      have e2 : (A' - x) * (V - k) * V ≤ A' * (V - k - 1) * V := Int.mul_le_mul_of_nonneg_right e1 (by omega)
      have e3 : A' * V * (V - k - 1) ≤ A * (V - k) * (V - k - 1) := Int.mul_le_mul_of_nonneg_right i3 (by omega)
      have e4 : (A' - x) * V * (V - k) = (A' - x) * (V - k) * V := by rw [Int.mul_assoc, Int.mul_comm V, ← Int.mul_assoc]
      have e5 : A' * (V - k - 1) * V = A' * V * (V - k - 1) := by rw [Int.mul_assoc, Int.mul_comm (V - k - 1), ← Int.mul_assoc]
      have e6 : A * (V - ((k + 1 : Nat) : Int)) * (V - k) = A * (V - k) * (V - k - 1) := by
        rw [show V - ((k + 1 : Nat) : Int) = V - k - 1 by omega, Int.mul_assoc, Int.mul_comm (V - k - 1), ← Int.mul_assoc]
      omega
    · omega

/-- no more rises than what the strongest vapour has -/
theorem grun_hi {c : Crv} {V A y : Int} (g : Good c.n c.L c.A c.B) (hA : 0 ≤ A) (hAV : A ≤ 1000000 * V) (y0 : 0 ≤ y) (y1 : y ≤ 10000) (hy : A ≤ y * (100 * V)) :
    ∀ (k : Nat) (A' : Int), (k : Int) ≤ V → GRun c V A k A' → A - A' ≤ k * (100 * vapHi c.L c.B c.n y)
  | 0, A', _, h => by
    have h : A' = A := h
    subst h; simp
  | k + 1, A'', hk, h => by
    obtain ⟨A', x, h1, s, rfl⟩ := h
    have ih := grun_hi g hA hAV y0 y1 hy k A' (by omega) h1
    obtain ⟨i1, i2, i3, i4⟩ := grun_inv hA hAV k A' (by omega) h1
    have hp : 0 < V - k := by omega
    have hV : 0 < V := by omega
    have b1 : A' ≤ y * (100 * (V - k)) := by
      refine mul_le_cancel hV (Int.le_trans i3 ?_)
      have := Int.mul_le_mul_of_nonneg_right hy (show 0 ≤ V - k by omega)
      have e : y * (100 * V) * (V - k) = y * (100 * (V - k)) * V := by rw [Int.mul_assoc, Int.mul_assoc, Int.mul_assoc, Int.mul_assoc, Int.mul_comm V]
      omega
    have hx : x ≤ 100 * vapHi c.L c.B c.n y := by
      rcases Int.lt_or_le 1 (V - k) with h1 | h1
      · refine s.hi h1 y y0 y1 (Int.max_le.2 ⟨Int.mul_nonneg y0 (by omega), ?_⟩)
        refine mul_le_cancel hp ?_
        have q1 : (A' - 1000000) * (V - k) ≤ A' * (V - k - 1) := by
          rw [Int.sub_mul, Int.mul_sub A' (V - k) 1]; omega
        have q2 := Int.mul_le_mul_of_nonneg_right b1 (show 0 ≤ V - k - 1 by omega)
        have e : y * (100 * (V - k)) * (V - k - 1) = y * (100 * (V - k - 1)) * (V - k) := by rw [Int.mul_assoc, Int.mul_assoc, Int.mul_assoc, Int.mul_assoc, Int.mul_comm (V - k)]
        omega
      · have e : V - k = 1 := by omega
        rw [e] at b1
        have v1 := g.vapLo_ge y0 y1
        have v2 := g.lo_le_hi y0 y1
        have := s.xA
        omega
    have e : (((k + 1 : Nat)) : Int) * (100 * vapHi c.L c.B c.n y) = k * (100 * vapHi c.L c.B c.n y) + 100 * vapHi c.L c.B c.n y := by rw [Int.natCast_add, Int.add_mul]; simp
    omega

/-- no less rises than what the weakest vapour has -/
theorem grun_lo {c : Crv} {V A y : Int} (g : Good c.n c.L c.A c.B) (hA : 0 ≤ A) (hAV : A ≤ 1000000 * V) (y0 : 0 ≤ y) (y1 : y ≤ 10000) (hy : y * (100 * V) ≤ A) :
    ∀ (k : Nat) (A' : Int), (k : Int) ≤ V → GRun c V A k A' → (y = 0 ∨ (k : Int) < V ∧ y * (100 * (V - k)) ≤ A') → k * (100 * vapLo c.L c.A c.n y) ≤ A - A'
  | 0, A', _, h, _ => by
    have h : A' = A := h
    subst h; simp
  | k + 1, A'', hk, h, hend => by
    obtain ⟨A', x, h1, s, rfl⟩ := h
    obtain ⟨i1, i2, i3, i4⟩ := grun_inv hA hAV k A' (by omega) h1
    have s1 := s.x0; have s2 := s.xA; have s3 := s.rest; have s4 := s.mono
    have hk' : y = 0 ∨ (k : Int) < V ∧ y * (100 * (V - k)) ≤ A' := by
      rcases hend with h | ⟨h, h2⟩
      · exact .inl h
      · refine .inr ⟨by omega, ?_⟩
        have hp : 0 < V - k - 1 := by omega
        refine mul_le_cancel hp ?_
        have e1 : (A' - x) * (V - k) ≤ A' * (V - k - 1) := by
          rw [Int.sub_mul, Int.mul_sub A' (V - k) 1, Int.mul_comm x]; omega
        rw [show V - ((k + 1 : Nat) : Int) = V - k - 1 by omega] at h2
        have e2 := Int.mul_le_mul_of_nonneg_right h2 (show 0 ≤ V - k by omega)
        have e3 : y * (100 * (V - k - 1)) * (V - k) = y * (100 * (V - k)) * (V - k - 1) := by rw [Int.mul_assoc, Int.mul_assoc, Int.mul_assoc, Int.mul_assoc, Int.mul_comm (V - k)]
        omega
    have ih := grun_lo g hA hAV y0 y1 hy k A' (by omega) h1 hk'
    have hx : 100 * vapLo c.L c.A c.n y ≤ x := by
      refine s.lo y y0 y1 ?_
      rcases hk' with h | h
      · rw [h]; simpa using i1
      · exact h.2
    have e : (((k + 1 : Nat)) : Int) * (100 * vapLo c.L c.A c.n y) = k * (100 * vapLo c.L c.A c.n y) + 100 * vapLo c.L c.A c.n y := by rw [Int.natCast_add, Int.add_mul]; simp
    omega

/-- what was drawn and what stays, whatever rose -/
theorem ground_true {c : Crv} {p : Pot3} {d A A' : Int} {k : Nat} (g : Good c.n c.L c.A c.B) (hp : p.ok) (he : errD p d = 0) (hA1 : 1000000 * p.lo ≤ A) (hA2 : A ≤ 1000000 * p.hi) (hk : (k : Int) = d) (hr : GRun c p.v A k A') :
    (1000000 * c.least p d ≤ A - A' ∧ A - A' ≤ 1000000 * c.most p d) ∧ 1000000 * (c.next p d).lo ≤ A' ∧ A' ≤ 1000000 * (c.next p d).hi := by
  obtain ⟨hd, hv⟩ := errD_zero he
  have hd1 := inB_t.1 hd
  obtain ⟨p0, p1, p2, p3⟩ := hp
  have vpos : 1 ≤ p.v := by omega
  obtain ⟨i1, i2, i3, i4⟩ := grun_inv (c := c) (V := p.v) (A := A) (by omega) (by omega) k A' (by omega) hr
  rw [hk] at i2 i3
  -- above
  have hi : A - A' ≤ 1000000 * c.most p d := by
    have y0 : 0 ≤ upI (p.hi * 10000) p.v := upI_nonneg (by omega) vpos
    have y1 : upI (p.hi * 10000) p.v ≤ 10000 := upI_le vpos (by omega)
    have y2 := le_upI (a := p.hi * 10000) vpos
    have h := grun_hi (c := c) (V := p.v) (A := A) g (by omega) (by omega) y0 y1 (by
      have : upI (p.hi * 10000) p.v * (100 * p.v) = upI (p.hi * 10000) p.v * p.v * 100 := by rw [Int.mul_assoc, Int.mul_comm p.v]
      omega) k A' (by omega) hr
    rw [hk] at h
    have q := le_upI (a := d * vapHi c.L c.B c.n (upI (p.hi * 10000) p.v)) (show (1 : Int) ≤ 10000 by omega)
    have e : d * (100 * vapHi c.L c.B c.n (upI (p.hi * 10000) p.v)) = d * vapHi c.L c.B c.n (upI (p.hi * 10000) p.v) * 100 := by rw [Int.mul_comm 100, ← Int.mul_assoc]
    unfold Crv.most
    rcases Int.le_total p.hi (upI (d * vapHi c.L c.B c.n (upI (p.hi * 10000) p.v)) 10000) with h5 | h5
    · rw [Int.min_eq_left h5]; omega
    · rw [Int.min_eq_right h5]; omega
  have st : 1000000 * c.stays p d ≤ A' := by
    unfold Crv.stays
    rcases Int.le_total 0 (p.lo - c.most p d) with h | h
    · rw [Int.max_eq_right h]; omega
    · rw [Int.max_eq_left h]; omega
  have st0 : 0 ≤ c.stays p d := by unfold Crv.stays; exact Int.le_max_left _ _
  have lo : 1000000 * c.least p d ≤ A - A' := by
    have q1 : p.lo * 10000 / p.v * p.v ≤ p.lo * 10000 := Int.ediv_mul_le _ (by omega)
    have q0 : 0 ≤ p.lo * 10000 / p.v := Int.ediv_nonneg (by omega) (by omega)
    have q2 : p.lo * 10000 / p.v ≤ 10000 := mul_le_cancel (show 0 < p.v by omega) (by omega)
    have y0 : 0 ≤ c.weak p d := by
      unfold Crv.weak
      refine Int.le_min.2 ⟨q0, ?_⟩
      split
      · omega
      · exact Int.ediv_nonneg (by omega) (by omega)
    have y1 : c.weak p d ≤ p.lo * 10000 / p.v := Int.min_le_left _ _
    have y2 : c.weak p d ≤ (if p.v - d = 0 then 0 else c.stays p d * 10000 / (p.v - d)) := Int.min_le_right _ _
    have y3 : c.weak p d * p.v ≤ p.lo * 10000 := Int.le_trans (Int.mul_le_mul_of_nonneg_right y1 (by omega)) q1
    have e1 : c.weak p d * (100 * p.v) = c.weak p d * p.v * 100 := by rw [Int.mul_assoc, Int.mul_comm p.v]
    have h := grun_lo (c := c) (V := p.v) (A := A) (y := c.weak p d) g (by omega) (by omega) y0 (by omega) (by omega) k A' (by omega) hr (by
      by_cases hz : p.v - d = 0
      · rw [if_pos hz] at y2; exact .inl (by omega)
      · rw [if_neg hz] at y2
        have q3 : c.stays p d * 10000 / (p.v - d) * (p.v - d) ≤ c.stays p d * 10000 := Int.ediv_mul_le _ hz
        have q4 := Int.le_trans (Int.mul_le_mul_of_nonneg_right y2 (show 0 ≤ p.v - d by omega)) q3
        have e2 : c.weak p d * (100 * (p.v - d)) = c.weak p d * (p.v - d) * 100 := by rw [Int.mul_assoc, Int.mul_comm (p.v - d)]
        exact .inr ⟨by omega, by rw [hk]; omega⟩)
    rw [hk] at h
    have e : d * (100 * vapLo c.L c.A c.n (c.weak p d)) = d * vapLo c.L c.A c.n (c.weak p d) * 100 := by rw [Int.mul_comm 100, ← Int.mul_assoc]
    unfold Crv.least
    rcases Int.le_total (p.lo - (p.v - d)) (d * vapLo c.L c.A c.n (c.weak p d) / 10000) with h5 | h5
    · rw [Int.max_eq_right h5]; omega
    · rw [Int.max_eq_left h5]; omega
  refine ⟨⟨lo, hi⟩, st, ?_⟩
  show A' ≤ 1000000 * c.high p d
  unfold Crv.high
  have u := le_upI (a := p.hi * (p.v - d)) vpos
  have u2 : A' ≤ 1000000 * upI (p.hi * (p.v - d)) p.v := by
    refine mul_le_cancel (show 0 < p.v by omega) (Int.le_trans i3 ?_)
    have a1 : A * (p.v - d) ≤ 1000000 * p.hi * (p.v - d) := Int.mul_le_mul_of_nonneg_right hA2 (by omega)
    have a2 : 1000000 * p.hi * (p.v - d) = 1000000 * (p.hi * (p.v - d)) := Int.mul_assoc _ _ _
    have a3 : 1000000 * upI (p.hi * (p.v - d)) p.v * p.v = 1000000 * (upI (p.hi * (p.v - d)) p.v * p.v) := Int.mul_assoc _ _ _
    omega
  rcases Int.le_total (p.hi - c.least p d) (min (p.v - d) (upI (p.hi * (p.v - d)) p.v)) with h5 | h5
  · rw [Int.min_eq_left h5]; omega
  · rw [Int.min_eq_right h5]
    rcases Int.le_total (p.v - d) (upI (p.hi * (p.v - d)) p.v) with h6 | h6
    · rw [Int.min_eq_left h6]; omega
    · rw [Int.min_eq_right h6]; exact u2
end Go.Proofs.Ytnmldophadanbaa
