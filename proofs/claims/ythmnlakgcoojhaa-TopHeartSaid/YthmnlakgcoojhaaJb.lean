/- Plain: amounts that are drawn, as parts of a mixture; the target stays behind the water. No conditions beyond each theorem's own. -/
import Derived.Test.YthmnlakgcoojhaaKq
import Derived.Test.YthmnlakgcoojhaaTb
import Derived.Test.YthmnlakgcoojhaaSt
set_option linter.unusedVariables false
set_option linter.unusedSimpArgs false
set_option linter.unusedSectionVars false
set_option linter.constructorNameAsVariable false
namespace Go.Proofs.Ythmnlakgcoojhaa
open Go.RowKit

/-- amounts that may be drawn -/
def Drs (D : Nat → L4.Dr3) (f J : Nat) : Prop := ∀ i, i < J → 1 ≤ (D (f + i)).d ∧ (D (f + i)).d ≤ 1073741824 ∧ 0 ≤ (D (f + i)).lo ∧ (D (f + i)).lo ≤ (D (f + i)).hi ∧ (D (f + i)).hi ≤ (D (f + i)).d
/-- an amount as a part of a mixture -/
def prt (D : Nat → L4.Dr3) (f i : Nat) : L1.Prt := ⟨(D (f + i)).d, (D (f + i)).d, (D (f + i)).lo * 10000 / (D (f + i)).d, ((D (f + i)).hi * 10000 + (D (f + i)).d - 1) / (D (f + i)).d⟩
section
variable {D : Nat → L4.Dr3} {f J : Nat} (h : Drs D f J)
include h
theorem prt_nums {i : Nat} (hi : i < J) : 0 ≤ (prt D f i).sl ∧ (prt D f i).sl ≤ (prt D f i).sh ∧ (prt D f i).sh ≤ 10000 ∧ (D (f + i)).hi * 10000 ≤ (D (f + i)).d * (prt D f i).sh := by
  obtain ⟨h1, h2, h3, h4, h5⟩ := h i hi
  have e1 : (prt D f i).sl = (D (f + i)).lo * 10000 / (D (f + i)).d := rfl
  have e2 : (prt D f i).sh = upI ((D (f + i)).hi * 10000) (D (f + i)).d := rfl
  rw [e1, e2]
  generalize (D (f + i)).d = d at *
  generalize (D (f + i)).lo = lo at *
  generalize (D (f + i)).hi = hi' at *
  have a0 := Int.ediv_nonneg (show 0 ≤ lo * 10000 by omega) (show 0 ≤ d by omega)
  have a1 : lo * 10000 / d ≤ hi' * 10000 / d := Int.ediv_le_ediv (by omega) (by omega)
  have a2 : hi' * 10000 / d ≤ upI (hi' * 10000) d := by unfold upI; exact Int.ediv_le_ediv (by omega) (by omega)
  have a3 : upI (hi' * 10000) d ≤ 10000 := upI_le h1 (by omega)
  have a4 := le_upI (a := hi' * 10000) h1
  rw [Int.mul_comm (upI _ _)] at a4
  exact ⟨a0, by omega, a3, a4⟩
theorem prt_ok {i : Nat} (hi : i < J) : (prt D f i).ok = true := by
  obtain ⟨h1, h2, h3, h4, h5⟩ := h i hi
  obtain ⟨a, b, c, _⟩ := prt_nums h hi
  have e : (prt D f i).ok = (spanB (D (f + i)).d (D (f + i)).d 0 1099511627776 && spanB (prt D f i).sl (prt D f i).sh 0 10000) := rfl
  rw [e, spanB_t.2 ⟨by omega, by omega, by omega⟩, spanB_t.2 ⟨a, b, c⟩]
  rfl
omit h
theorem mAl_prt : ∀ j, L1.mAl (prt D f) j = L4.asum D f j
  | 0 => rfl
  | j + 1 => by
    have ih := mAl_prt j
    show L1.sumI _ j + _ = L4.asum D f j + _
    unfold L1.mAl at ih
    rw [ih]
    rfl
theorem mAh_prt (j : Nat) : L1.mAh (prt D f) j = L4.asum D f j := (show L1.mAh (prt D f) j = L1.mAl (prt D f) j from rfl).trans (mAl_prt j)
include h
theorem lsum_le : ∀ j, j ≤ J → L4.lsum D f j ≤ L1.mLh (prt D f) j
  | 0, _ => Int.le_refl _
  | j + 1, hj => by
    have ih := lsum_le j (by omega)
    obtain ⟨h1, h2, h3, h4, h5⟩ := h j (by omega)
    have n := (prt_nums h (i := j) (by omega)).2.2.2
    show L4.lsum D f j + (D (f + j)).lo ≤ L1.mLh (prt D f) j + L1.puHi (D (f + j)).d (prt D f j).sh
    have p : (D (f + j)).hi ≤ L1.puHi (D (f + j)).d (prt D f j).sh := by
      unfold L1.puHi
      have := le_upI (a := (D (f + j)).d * (prt D f j).sh) (b := 10000) (by omega)
      omega
    omega
theorem asum_ge : ∀ j, j ≤ J → (j : Int) ≤ L4.asum D f j ∧ 0 ≤ L4.lsum D f j ∧ L4.lsum D f j ≤ L4.asum D f j ∧ L4.asum D f j ≤ (j : Int) * 1073741824
  | 0, _ => by simp [L4.asum, L4.lsum]
  | j + 1, hj => by
    have ih := asum_ge j (by omega)
    obtain ⟨h1, h2, h3, h4, h5⟩ := h j (by omega)
    unfold L4.asum L4.lsum
    have e : ((j + 1 : Nat) : Int) * 1073741824 = (j : Int) * 1073741824 + 1073741824 := by rw [show ((j + 1 : Nat) : Int) = (j : Int) + 1 from rfl, Int.add_mul]; simp
    rw [e]
    omega
theorem heart_mix {t : Int} (hJ : 1 ≤ J) (h40 : J ≤ 40) (t0 : 1 ≤ t) (t1 : t ≤ 10000) (hO : 0 ≤ L4.heartO D f t J) :
    L1.mixE J (prt D f) 0 = 0 ∧ ∃ sl sh, L1.mixV J (prt D f) 0 = ⟨L4.asum D f J, L4.asum D f J, sl, sh⟩ ∧ t ≤ sh := by
  have a := asum_ge h J (Nat.le_refl _)
  have l := lsum_le h J (Nat.le_refl _)
  rw [L4.heartO_sums] at hO
  have ok : L1.allB J (fun i => (prt D f i).ok) = true := L1.allB_t.2 fun i hi => prt_ok h hi
  have eE : L1.mixE J (prt D f) 0 = 0 := by
    unfold L1.mixE
    rw [if_neg (by omega), if_pos ok, if_pos (by decide), mAh_prt, mAl_prt, if_neg (by omega), if_neg (by omega)]
  refine ⟨eE, ?_⟩
  have e1 : L1.mLeast J (prt D f) 0 = L4.asum D f J * 10000 := by unfold L1.mLeast; rw [mAl_prt]; rfl
  unfold L1.mixV
  rw [if_pos eE, e1, mAh_prt, Int.mul_ediv_cancel _ (by omega)]
  refine ⟨_, _, rfl, ?_⟩
  have b : 1 ≤ L4.asum D f J * 10000 := by omega
  have q := le_upI (a := L1.mLh (prt D f) J * 10000 * 10000) b
  have q2 : t ≤ upI (L1.mLh (prt D f) J * 10000 * 10000) (L4.asum D f J * 10000) := by
    rcases Int.lt_or_le (upI (L1.mLh (prt D f) J * 10000 * 10000) (L4.asum D f J * 10000)) t with x | x
    · have y := Int.mul_le_mul_of_nonneg_right (show upI (L1.mLh (prt D f) J * 10000 * 10000) (L4.asum D f J * 10000) ≤ t - 1 by omega) (show 0 ≤ L4.asum D f J * 10000 by omega)
      have z : (t - 1) * (L4.asum D f J * 10000) = (t * L4.asum D f J) * 10000 - L4.asum D f J * 10000 := by rw [Int.sub_mul, Int.one_mul, Int.mul_assoc]
      rw [z] at y
      omega
    · exact x
  omega
theorem heart_water {t : Int} (hJ : 1 ≤ J) (h40 : J ≤ 40) (t0 : 1 ≤ t) (t1 : t ≤ 10000) (hO : 0 ≤ L4.heartO D f t J) :
    L1.watE (L4.asum D f J) (L4.asum D f J) (L4.lsum D f J * 10000 / L4.asum D f J) 10000 t = 0 ∧ 0 ≤ L1.watN (L4.asum D f J) (L4.asum D f J) (L4.lsum D f J * 10000 / L4.asum D f J) 10000 t ∧
      L1.watN (L4.asum D f J) (L4.asum D f J) (L4.lsum D f J * 10000 / L4.asum D f J) 10000 t ≤ 1099511627776 ∧ 0 ≤ t * (L4.asum D f J + L1.watN (L4.asum D f J) (L4.asum D f J) (L4.lsum D f J * 10000 / L4.asum D f J) 10000 t) ∧
      t * (L4.asum D f J + L1.watN (L4.asum D f J) (L4.asum D f J) (L4.lsum D f J * 10000 / L4.asum D f J) 10000 t) ≤ L4.lsum D f J * 10000 := by
  have a := asum_ge h J (Nat.le_refl _)
  rw [L4.heartO_sums] at hO
  generalize L4.asum D f J = A at *
  generalize L4.lsum D f J = S at *
  have s0 : t ≤ S * 10000 / A := Int.le_ediv_of_mul_le (by omega) (by omega)
  have s1 : S * 10000 / A ≤ 10000 := by
    have := Int.ediv_le_ediv (c := A) (by omega) (show S * 10000 ≤ A * 10000 by omega)
    rw [Int.mul_comm A, Int.mul_ediv_cancel _ (by omega)] at this
    exact this
  have s2 : S * 10000 / A * A ≤ S * 10000 := Int.ediv_mul_le _ (by omega)
  generalize S * 10000 / A = s at *
  have pb : L1.partB A A s 10000 = true := by unfold L1.partB; rw [spanB_t.2 ⟨by omega, by omega, by omega⟩, spanB_t.2 ⟨by omega, by omega, by omega⟩]; rfl
  have e0 : L1.watE A A s 10000 t = 0 := by unfold L1.watE; rw [if_pos pb, if_pos (inB_t.2 ⟨t0, t1⟩), if_neg (by omega)]
  have e1 : L1.watN A A s 10000 t = min (1099511627776 - A) (A * (s - t) / t) := if_pos e0
  rw [e1]
  have p := Int.mul_nonneg (show 0 ≤ A by omega) (show 0 ≤ s - t by omega)
  have q0 := Int.ediv_nonneg p (show 0 ≤ t by omega)
  have q1 : A * (s - t) / t * t ≤ A * (s - t) := Int.ediv_mul_le _ (by omega)
  generalize A * (s - t) / t = q at *
  obtain ⟨m, hm⟩ : ∃ m, min (1099511627776 - A) q = m := ⟨_, rfl⟩
  rw [hm]
  have m0 : 0 ≤ m := by omega
  have m1 : m ≤ q := by omega
  have z0 := Int.mul_nonneg (show 0 ≤ t by omega) (show 0 ≤ A + m by omega)
  refine ⟨e0, m0, by omega, z0, ?_⟩
  have r1 := Int.mul_le_mul_of_nonneg_left m1 (show 0 ≤ t by omega)
  have r2 : A * (s - t) = s * A - t * A := by rw [Int.mul_sub, Int.mul_comm A s, Int.mul_comm A t]
  rw [Int.mul_add]
  rw [Int.mul_comm q t] at q1
  omega
end
end Go.Proofs.Ythmnlakgcoojhaa
