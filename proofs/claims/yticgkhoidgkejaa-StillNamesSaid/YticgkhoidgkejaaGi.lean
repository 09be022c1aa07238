/- Contract of the reference's Curve, Check; and of Check. Contracts of the reference's up, Line, vapour. Contracts of the reference's strong, vapour, Vapour, Check; of Check. No conditions beyond each theorem's own. -/
import Derived.Test.YticgkhoidgkejaaGg
set_option linter.unusedVariables false
set_option linter.unusedSimpArgs false
set_option linter.unusedSectionVars false
set_option linter.constructorNameAsVariable false
namespace Go.Proofs.Yticgkhoidgkejaa
open Go.RowKit

attribute [local go_sem] gw_cell gw_frozen gw_size

theorem curveB_neg {n m : Nat} {L A B : Nat → Int} {k : Nat} (hk : k < n) (h : ∀ t, t < k → okB L A B t = true ∧ 0 ≤ L t) (hL : L k < 0) : curveB n m L A B = false := by
  by_cases h0 : k = 0
  · subst h0
    have : headB n m L A = false := by
      have : decide (L 0 = 0) = false := by simp; omega
      simp [headB, this]
    simp [curveB, this]
  · have := (h (k - 1) (by omega)).2
    exact curveB_not hk (okB_step (by omega) (by simp [stepB]; omega))

theorem curve_end {n : Nat} {L A B : Nat → Int} (h1 : inB n 2 32 = true) (h : ∀ t, t < n → okB L A B t = true ∧ 0 ≤ L t) : curveB n n L A B = (decide (L 0 = 0) && (decide (L (n - 1) = 10000) && decide (A 0 = 0))) := by
  have e : (List.range n).all (okB L A B) = true := by
    simp only [List.all_eq_true, List.mem_range]; exact fun t ht => (h t ht).1
  simp [curveB, headB, h1, e]
theorem below_cell' {W w1 : World} {b o : Nat} {v : Value} (hb : Below W.heap.size W w1) (h : W.cell? ⟨b, o, none⟩ = some v) : w1.cell? ⟨b, o, none⟩ = some v :=
  (hb.cell (p := ⟨b, o, none⟩) (World.block_lt_of_cell? W _ h)).trans h

end Go.Proofs.Yticgkhoidgkejaa

namespace Go.Proofs.Yticgkhoidgkejaa
open Go.RowKit

attribute [local go_sem] gw_cell gw_frozen gw_size

theorem mul_abs {a b A B : Int} (h1 : -A ≤ a) (h2 : a ≤ A) (h3 : -B ≤ b) (h4 : b ≤ B) : -(A * B) ≤ a * b ∧ a * b ≤ A * B := by
  have hA : 0 ≤ A := by omega
  have hB : 0 ≤ B := by omega
  have e : (a * b).natAbs ≤ A.natAbs * B.natAbs := by
    rw [Int.natAbs_mul]
    exact Nat.mul_le_mul (by omega) (by omega)
  have e2 : ((A.natAbs * B.natAbs : Nat) : Int) = A * B := by rw [Int.natCast_mul]; congr 1 <;> omega
  omega
/-- the segment in which the reference looks -/
structure RSeg (L : Nat → Int) (n i : Nat) (num den : Int) : Prop where
  lt : i + 1 < n
  le : ∀ t, t < i → t + 2 < n ∧ L (t + 1) * den ≤ num
  stop : ¬ (i + 2 < n ∧ L (i + 1) * den ≤ num)
def rnum (L E : Nat → Int) (i : Nat) (num den : Int) : Int := E i * (L (i + 1) - L i) * den + (E (i + 1) - E i) * (num - L i * den)
def rden (L : Nat → Int) (i : Nat) (den : Int) : Int := (L (i + 1) - L i) * den

theorem rseg_ex (L : Nat → Int) (n : Nat) (num den : Int) (hn : 2 ≤ n) : ∃ i, RSeg L n i num den := by
  have key : ∀ d i, n = i + 2 + d → (∀ t, t < i → t + 2 < n ∧ L (t + 1) * den ≤ num) → ∃ i, RSeg L n i num den := by
    intro d
    induction d with
    | zero => exact fun i hi h => ⟨i, by omega, h, by omega⟩
    | succ d ih =>
      intro i hi h
      by_cases hc : L (i + 1) * den ≤ num
      · exact ih (i + 1) (by omega) fun t ht => by
          by_cases e : t = i
          · subst e; exact ⟨by omega, hc⟩
          · exact h t (by omega)
      · exact ⟨i, by omega, h, fun hx => hc hx.2⟩
  exact key (n - 2) 0 (by omega) (fun t ht => by omega)

end Go.Proofs.Yticgkhoidgkejaa

namespace Go.Proofs.Yticgkhoidgkejaa
open Go.RowKit

attribute [local go_sem] gw_cell gw_frozen gw_size

theorem Good.strict {n : Nat} {L A B : Nat → Int} (g : Good n L A B) : ∀ s t, s < t → t < n → L s < L t := fun s t hst ht => by
  have h1 := g.inc s (by omega)
  have h2 := g.mono (s + 1) t (by omega) ht
  omega

/-- the reference looks in the same segment -/
theorem rseg_seg {n : Nat} {L A B : Nat → Int} (g : Good n L A B) {x : Int} (h0 : 0 ≤ x) (h1 : x ≤ 10000) : RSeg L n (segI L n x) x 1 := by
  obtain ⟨s1, s2, s3⟩ := g.seg h0 h1
  refine ⟨s1, fun t ht => ⟨by omega, ?_⟩, fun ⟨h2, h3⟩ => ?_⟩
  · have := g.mono (t + 1) (segI L n x) (by omega) (by omega)
    omega
  · have e : L (segI L n x + 1) = x := by omega
    have hl : segI L n x + 1 = lb L x n := lb_unique (by omega) (fun t ht => by rw [← e]; exact g.strict _ _ ht s1) (fun _ => by omega)
    have hf : foundB L x n = true := by
      unfold foundB
      rw [← hl]
      simp [e]; omega
    have : segI L n x = min (lb L x n) (n - 2) := by unfold segI; rw [if_pos hf]
    rw [← hl] at this
    omega
theorem rnum_one (L E : Nat → Int) (n : Nat) (x : Int) : rnum L E (segI L n x) x 1 = lineNum L E n x := by
  unfold rnum lineNum lineDen; simp
theorem rden_one (L : Nat → Int) (n : Nat) (x : Int) : rden L (segI L n x) 1 = lineDen L n x := by
  unfold rden lineDen; simp

section
variable (aL aV : Option Addr) (n cL cV : Nat) (L A B : Nat → Int) (w : World) (g : Good n L A B) (hL : IntsAt w aL n L) (hV : SpansAt w aV n A B) (x : Int) (h0 : 0 ≤ x) (h1 : x ≤ 10000)
include g hL hV h0 h1
end

end Go.Proofs.Yticgkhoidgkejaa
