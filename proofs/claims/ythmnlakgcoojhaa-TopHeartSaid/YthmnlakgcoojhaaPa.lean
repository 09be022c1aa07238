/- The plain arithmetic of a long division of 128 bits by 64. No conditions beyond each theorem's own. -/
import Derived.Test.YthmnlakgcoojhaaAa
set_option linter.unusedVariables false
set_option linter.unusedSimpArgs false
set_option linter.unusedSectionVars false
set_option linter.constructorNameAsVariable false
namespace Go.Lib.D64
/-- one digit of a long division -/
def dig (B y1 y0 u u1 : Nat) : Nat := (u * B + u1) / (y1 * B + y0)
section
variable {B y1 y0 u u1 q r : Nat}
theorem mul_split (q y1 y0 B : Nat) : q * (y1 * B + y0) = q * y1 * B + q * y0 := by rw [Nat.mul_add, Nat.mul_assoc]
theorem dig_le_start (h1 : u1 < B) (hy : 0 < y1) : dig B y1 y0 u u1 ≤ u / y1 := by
  unfold dig
  refine Nat.le_of_not_lt fun hlt => ?_
  have h2 := Nat.div_mul_le_self (u * B + u1) (y1 * B + y0)
  generalize (u * B + u1) / (y1 * B + y0) = Q at hlt h2
  rw [mul_split] at h2
  have h3 : u < Q * y1 := by
    have := (Nat.div_lt_iff_lt_mul hy).1 hlt
    exact this
  have h4 : (u + 1) * B ≤ Q * y1 * B := Nat.mul_le_mul_right B h3
  rw [Nat.add_mul] at h4
  omega
theorem dig_lt (hq : q * y1 + r = u) (hy : 0 < y1 * B + y0) (h : B * r + u1 < q * y0) : dig B y1 y0 u u1 < q := by
  unfold dig
  rw [Nat.div_lt_iff_lt_mul hy, mul_split, ← hq, Nat.add_mul, Nat.mul_comm r B]
  omega
theorem dig_lt_base (hu : u < y1 * B + y0) (h1 : u1 < B) : dig B y1 y0 u u1 < B := by
  unfold dig
  rw [Nat.div_lt_iff_lt_mul (by omega)]
  have : (u + 1) * B ≤ (y1 * B + y0) * B := Nat.mul_le_mul_right B hu
  rw [Nat.add_mul, Nat.mul_comm (y1 * B + y0) B] at this
  omega
theorem le_dig (hq : q * y1 + r = u) (hy : 0 < y1 * B + y0) (h : q * y0 ≤ B * r + u1) : q ≤ dig B y1 y0 u u1 := by
  unfold dig
  rw [Nat.le_div_iff_mul_le hy, mul_split, ← hq, Nat.add_mul, Nat.mul_comm r B]
  omega
theorem le_dig_far (hq : q * y1 + r = u) (hy : 0 < y1 * B + y0) (hqB : q ≤ B) (h0 : y0 ≤ B) (hr : B ≤ r) : q ≤ dig B y1 y0 u u1 :=
  le_dig hq hy (by
    have a := Nat.mul_le_mul hqB h0
    have b := Nat.mul_le_mul_left B hr
    omega)
theorem start_le (hu : u < y1 * B + y0) (h0 : y0 < B) (hB : B ≤ 2 * y1) (hy : 0 < y1) : u / y1 ≤ B + 1 := by
  have : u / y1 < B + 2 := by
    rw [Nat.div_lt_iff_lt_mul hy, Nat.add_mul, Nat.mul_comm B y1]
    omega
  omega
theorem rest_lt : u * B + u1 - dig B y1 y0 u u1 * (y1 * B + y0) = (u * B + u1) % (y1 * B + y0) ∧ dig B y1 y0 u u1 * (y1 * B + y0) ≤ u * B + u1 := by
  unfold dig
  have := Nat.div_add_mod (u * B + u1) (y1 * B + y0)
  rw [Nat.mul_comm] at this
  omega
end
theorem shifted {K M W hi lo y : Nat} (hKM : K * M = W) (hM : 0 < M) (hlo : lo < W) (hhi : hi < y) :
    (hi * W + lo) * K = (hi * K + lo / M) * W + lo * K % W ∧ hi * K + lo / M < y * K := by
  have e := Nat.div_add_mod lo M
  have hm := Nat.mod_lt lo hM
  have hK : 0 < K := by
    rcases Nat.eq_zero_or_pos K with h | h
    · rw [h, Nat.zero_mul] at hKM; omega
    · exact h
  have hd : lo / M < K := by rw [Nat.div_lt_iff_lt_mul hM, hKM]; exact hlo
  have hmK : lo % M * K < W := by
    have := Nat.mul_lt_mul_of_pos_right hm hK
    rw [Nat.mul_comm M K, hKM] at this
    exact this
  have e2 : lo * K = lo / M * W + lo % M * K := by
    calc lo * K = (M * (lo / M) + lo % M) * K := by rw [e]
      _ = lo / M * W + lo % M * K := by rw [Nat.add_mul, ← hKM, Nat.mul_comm M (lo / M), Nat.mul_assoc, Nat.mul_comm M K]
  have e3 : lo * K % W = lo % M * K := by rw [e2, Nat.add_comm, Nat.add_mul_mod_self_right, Nat.mod_eq_of_lt hmK]
  refine ⟨?_, ?_⟩
  · rw [e3, Nat.add_mul, Nat.add_mul, e2, Nat.mul_right_comm]; omega
  · have := Nat.mul_le_mul_right K hhi
    rw [Nat.succ_mul] at this
    omega
/-- both digits together -/
theorem both {B W N K y U v1 v0 Q1 R1 Q0 R0 : Nat} (hW : B * B = W) (hK : 0 < K) (hy : 0 < y) (hN : N * K = U * W + (v1 * B + v0)) (h1 : U * B + v1 = Q1 * (y * K) + R1) (h2 : R1 * B + v0 = Q0 * (y * K) + R0) (hR : R0 < y * K) :
    Q1 * B + Q0 = N / y ∧ R0 / K = N % y ∧ R0 = N % y * K := by
  have e : N * K = (Q1 * B + Q0) * (y * K) + R0 := by
    have a : U * W = U * B * B := by rw [← hW, Nat.mul_assoc]
    have b : (U * B + v1) * B = Q1 * (y * K) * B + R1 * B := by rw [h1, Nat.add_mul]
    rw [Nat.add_mul] at b
    rw [hN, a, Nat.add_mul, Nat.mul_right_comm Q1 B (y * K)]
    omega
  have hyK : 0 < y * K := Nat.mul_pos hy hK
  have q : N * K / (y * K) = Q1 * B + Q0 := by
    rw [e, Nat.mul_comm (Q1 * B + Q0), Nat.mul_add_div hyK, Nat.div_eq_of_lt hR]; omega
  have m : N * K % (y * K) = R0 := by
    rw [e, Nat.mul_comm (Q1 * B + Q0), Nat.mul_add_mod, Nat.mod_eq_of_lt hR]
  rw [Nat.mul_div_mul_right _ _ hK] at q
  rw [Nat.mul_mod_mul_right] at m
  refine ⟨q.symm, ?_, m.symm⟩
  rw [← m, Nat.mul_div_cancel _ hK]
end Go.Lib.D64
