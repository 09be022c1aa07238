/- StillLasts: the walk of the law where there is no error. No conditions beyond each theorem's own. -/
import Derived.Test.YtnmldophadanbaaLa
set_option linter.unusedVariables false
set_option linter.unusedSimpArgs false
set_option linter.unusedSectionVars false
set_option linter.constructorNameAsVariable false
namespace Go.Proofs.Ytnmldophadanbaa
open Go.RowKit

attribute [local go_sem] gw_cell gw_frozen gw_size

theorem lasts_valid {tl th wl wh l : Int} (hE : wearErr tl th wl wh l = 0) : 0 ≤ tl ∧ tl ≤ th ∧ th ≤ 1073741824 ∧ 0 ≤ wl ∧ wl ≤ wh ∧ wh ≤ 1073741824 ∧ 0 ≤ l ∧ l ≤ tl := by
  unfold wearErr at hE
  split at hE
  · rename_i h1
    simp only [Bool.and_eq_true] at h1
    have a := spanB_t.1 h1.1
    have b := spanB_t.1 h1.2
    split at hE
    · rename_i h2
      have c := inB_t.1 h2
      split at hE
      · omega
      · omega
    · omega
  · omega

/-- two spans were boxed -/
structure Two (w W2 : World) (tl th wl wh : Int) : Prop where
  a0 : W2.cell? ⟨w.heap.size, 0, none⟩ = some (.int .i64 tl)
  a1 : W2.cell? ⟨w.heap.size, 1, none⟩ = some (.int .i64 th)
  b0 : W2.cell? ⟨w.heap.size + 1, 0, none⟩ = some (.int .i64 wl)
  b1 : W2.cell? ⟨w.heap.size + 1, 1, none⟩ = some (.int .i64 wh)
  sz : w.heap.size + 2 ≤ W2.heap.size
  low : Below w.heap.size w W2
theorem two_of (w : World) (tl th wl wh : Int) (t : TypeId) : Two w ((w.alloc (.cells #[.int .i64 tl, .int .i64 th] t)).alloc (.cells #[.int .i64 wl, .int .i64 wh] t)) tl th wl wh :=
  ⟨by simp [go_sem], by simp [go_sem], by simp [go_sem], by simp [go_sem], by simp, ((Below.refl _ w).alloc (Nat.le_refl _) _).alloc (by simp) _⟩

theorem emod_nat (k n : Nat) : ((k : Int) % (n : Int)) = ((k % n : Nat) : Int) := (Int.natCast_emod k n).symm

/-- what the numbers of runs are, case by case -/
structure Runs0 (R1 R2 wl wh : Int) : Prop where
  r1 : R1 = -1
  wh : wh = 0
  wl : wl = 0
  r2 : R2 = -1
structure Runs1 (tl wh l R1 : Int) : Prop where
  e : (R1 == -1) = false
  k1 : 0 ≤ R1
  k2 : R1 ≤ 1073741824
  k3 : 0 ≤ R1 * wh
  k4 : R1 * wh ≤ 1073741824
  k5 : 0 ≤ (R1 + 1) * wh
  k6 : (R1 + 1) * wh ≤ 2147483648
  k7 : l ≤ tl - R1 * wh
  k8 : tl - (R1 + 1) * wh < l
theorem runs_cases {tl th wl wh l : Int} (hE : wearErr tl th wl wh l = 0) :
    Runs0 (runsI tl wh l) (runsI th wl l) wl wh ∨ (Runs1 tl wh l (runsI tl wh l) ∧ ((runsI th wl l = -1 ∧ wl = 0) ∨ (Runs1 th wl l (runsI th wl l) ∧ runsI tl wh l ≤ runsI th wl l))) := by
  obtain ⟨v1, v2, v3, v4, v5, v6, v7, v8⟩ := lasts_valid hE
  have hN := lasts_num v4 v5 v2 v7 v8 v3 v6
  generalize runsI tl wh l = R1 at *
  generalize runsI th wl l = R2 at *
  have e1 : (R1 + 1) * wh = R1 * wh + wh := by rw [Int.add_mul, Int.one_mul]
  have e2 : (R2 + 1) * wl = R2 * wl + wl := by rw [Int.add_mul, Int.one_mul]
  rcases hN with ⟨h1, h2, h3, h4⟩ | ⟨k0, k1, k2, k3, k4, k5, ⟨h1, h2⟩ | ⟨q0, q1, q2, q3, q4, q5, q6⟩⟩
  · exact .inl ⟨h3, h1, h2, h4⟩
  · exact .inr ⟨⟨by simp; omega, k1, k2, k3, by omega, by omega, by omega, k4, k5⟩, .inl ⟨h2, h1⟩⟩
  · exact .inr ⟨⟨by simp; omega, k1, k2, k3, by omega, by omega, by omega, k4, k5⟩, .inr ⟨⟨by simp; omega, q2, q3, q4, by omega, by omega, by omega, q5, q6⟩, q1⟩⟩

/-- what is left, as far as the walk asks -/
theorem now_bound {tl th wl wh : Int} {n : Nat} {Y : Nat → Int} (h1 : 0 ≤ wl) (h2 : wl ≤ wh) (h3 : tl ≤ th) (h4 : 0 ≤ tl) (h5 : wh ≤ 1073741824) {k : Nat} (hk : k ≤ 101) : -200000000000 ≤ nowI tl th wl wh n Y k ∧ nowI tl th wl wh n Y k ≤ th := by
  have := nowI_range (n := n) (Y := Y) h2 h3 k
  have a : (k : Int) * wh ≤ 101 * 1073741824 := Int.mul_le_mul (by omega) h5 (by omega) (by omega)
  have b : 0 ≤ (k : Int) * wl := Int.mul_nonneg (by omega) h1
  omega
theorem now_above {tl th wl wh l R : Int} {n : Nat} {Y : Nat → Int} (h2 : wl ≤ wh) (h3 : tl ≤ th) (h0 : 0 ≤ wh) {k : Nat} (hR : l ≤ tl - R * wh) (hk : (k : Int) ≤ R) : l ≤ nowI tl th wl wh n Y k := by
  have := nowI_range (n := n) (Y := Y) h2 h3 k
  have a : (k : Int) * wh ≤ R * wh := Int.mul_le_mul_of_nonneg_right hk h0
  omega
theorem now_under {tl th wl wh l R : Int} {n : Nat} {Y : Nat → Int} (h2 : wl ≤ wh) (h3 : tl ≤ th) (h0 : 0 ≤ wl) {k : Nat} (hR : th - (R + 1) * wl < l) (hk : R < (k : Int)) : nowI tl th wl wh n Y k < l := by
  have := nowI_range (n := n) (Y := Y) h2 h3 k
  have a : (R + 1) * wl ≤ (k : Int) * wl := Int.mul_le_mul_of_nonneg_right (by omega) h0
  omega
end Go.Proofs.Ytnmldophadanbaa
