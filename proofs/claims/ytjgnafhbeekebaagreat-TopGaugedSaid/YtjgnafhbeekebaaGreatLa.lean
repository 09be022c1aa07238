/- The plain arithmetic of a long division of 128 bits by 64. Plain laws of fractions, of values between the rows and columns of a table, of least and greatest values over spans. Plain laws of a table: what is seen of a strength rises; the strengths that show something; both ends are tight. Plain laws of a table: narrower spans; volumes. No conditions beyond each theorem's own. -/
import Derived.Test.YtjgnafhbeekebaaGreatAa
set_option linter.unusedVariables false
set_option linter.unusedSimpArgs false
set_option linter.unusedSectionVars false
set_option linter.constructorNameAsVariable false
namespace Go.Lib.D64
/-- one digit of a long division -/
def dig (B y1 y0 u u1 : Nat) : Nat := (u * B + u1) / (y1 * B + y0)
section
variable {B y1 y0 u u1 q r : Nat}
theorem mul_split (q y1 y0 B : Nat) : q * (y1 * B + y0) = q * y1 * B + q * y0 := by rw [Nat.mul_add, Nat.mul_assoc]
theorem dig_le_start (h1 : u1 < B) (hy : 0 < y1) : dig B y1 y0 u u1 ≤ u / y1 := by
  unfold dig
  refine Nat.le_of_not_lt fun hlt => ?_
  have h2 := Nat.div_mul_le_self (u * B + u1) (y1 * B + y0)
  generalize (u * B + u1) / (y1 * B + y0) = Q at hlt h2
  rw [mul_split] at h2
  have h3 : u < Q * y1 := by
    have := (Nat.div_lt_iff_lt_mul hy).1 hlt
    exact this
  have h4 : (u + 1) * B ≤ Q * y1 * B := Nat.mul_le_mul_right B h3
  rw [Nat.add_mul] at h4
  omega
theorem dig_lt (hq : q * y1 + r = u) (hy : 0 < y1 * B + y0) (h : B * r + u1 < q * y0) : dig B y1 y0 u u1 < q := by
  unfold dig
  rw [Nat.div_lt_iff_lt_mul hy, mul_split, ← hq, Nat.add_mul, Nat.mul_comm r B]
  omega
theorem dig_lt_base (hu : u < y1 * B + y0) (h1 : u1 < B) : dig B y1 y0 u u1 < B := by
  unfold dig
  rw [Nat.div_lt_iff_lt_mul (by omega)]
  have : (u + 1) * B ≤ (y1 * B + y0) * B := Nat.mul_le_mul_right B hu
  rw [Nat.add_mul, Nat.mul_comm (y1 * B + y0) B] at this
  omega
theorem le_dig (hq : q * y1 + r = u) (hy : 0 < y1 * B + y0) (h : q * y0 ≤ B * r + u1) : q ≤ dig B y1 y0 u u1 := by
  unfold dig
  rw [Nat.le_div_iff_mul_le hy, mul_split, ← hq, Nat.add_mul, Nat.mul_comm r B]
  omega
theorem le_dig_far (hq : q * y1 + r = u) (hy : 0 < y1 * B + y0) (hqB : q ≤ B) (h0 : y0 ≤ B) (hr : B ≤ r) : q ≤ dig B y1 y0 u u1 :=
  le_dig hq hy (by
    have a := Nat.mul_le_mul hqB h0
    have b := Nat.mul_le_mul_left B hr
    omega)
theorem start_le (hu : u < y1 * B + y0) (h0 : y0 < B) (hB : B ≤ 2 * y1) (hy : 0 < y1) : u / y1 ≤ B + 1 := by
  have : u / y1 < B + 2 := by
    rw [Nat.div_lt_iff_lt_mul hy, Nat.add_mul, Nat.mul_comm B y1]
    omega
  omega
theorem rest_lt : u * B + u1 - dig B y1 y0 u u1 * (y1 * B + y0) = (u * B + u1) % (y1 * B + y0) ∧ dig B y1 y0 u u1 * (y1 * B + y0) ≤ u * B + u1 := by
  unfold dig
  have := Nat.div_add_mod (u * B + u1) (y1 * B + y0)
  rw [Nat.mul_comm] at this
  omega
end
theorem shifted {K M W hi lo y : Nat} (hKM : K * M = W) (hM : 0 < M) (hlo : lo < W) (hhi : hi < y) :
    (hi * W + lo) * K = (hi * K + lo / M) * W + lo * K % W ∧ hi * K + lo / M < y * K := by
  have e := Nat.div_add_mod lo M
  have hm := Nat.mod_lt lo hM
  have hK : 0 < K := by
    rcases Nat.eq_zero_or_pos K with h | h
    · rw [h, Nat.zero_mul] at hKM; omega
    · exact h
  have hd : lo / M < K := by rw [Nat.div_lt_iff_lt_mul hM, hKM]; exact hlo
  have hmK : lo % M * K < W := by
    have := Nat.mul_lt_mul_of_pos_right hm hK
    rw [Nat.mul_comm M K, hKM] at this
    exact this
  have e2 : lo * K = lo / M * W + lo % M * K := by
    calc lo * K = (M * (lo / M) + lo % M) * K := by rw [e]
      _ = lo / M * W + lo % M * K := by rw [Nat.add_mul, ← hKM, Nat.mul_comm M (lo / M), Nat.mul_assoc, Nat.mul_comm M K]
  have e3 : lo * K % W = lo % M * K := by rw [e2, Nat.add_comm, Nat.add_mul_mod_self_right, Nat.mod_eq_of_lt hmK]
  refine ⟨?_, ?_⟩
  · rw [e3, Nat.add_mul, Nat.add_mul, e2, Nat.mul_right_comm]; omega
  · have := Nat.mul_le_mul_right K hhi
    rw [Nat.succ_mul] at this
    omega
/-- both digits together -/
theorem both {B W N K y U v1 v0 Q1 R1 Q0 R0 : Nat} (hW : B * B = W) (hK : 0 < K) (hy : 0 < y) (hN : N * K = U * W + (v1 * B + v0)) (h1 : U * B + v1 = Q1 * (y * K) + R1) (h2 : R1 * B + v0 = Q0 * (y * K) + R0) (hR : R0 < y * K) :
    Q1 * B + Q0 = N / y ∧ R0 / K = N % y ∧ R0 = N % y * K := by
  have e : N * K = (Q1 * B + Q0) * (y * K) + R0 := by
    have a : U * W = U * B * B := by rw [← hW, Nat.mul_assoc]
    have b : (U * B + v1) * B = Q1 * (y * K) * B + R1 * B := by rw [h1, Nat.add_mul]
    rw [Nat.add_mul] at b
    rw [hN, a, Nat.add_mul, Nat.mul_right_comm Q1 B (y * K)]
    omega
  have hyK : 0 < y * K := Nat.mul_pos hy hK
  have q : N * K / (y * K) = Q1 * B + Q0 := by
    rw [e, Nat.mul_comm (Q1 * B + Q0), Nat.mul_add_div hyK, Nat.div_eq_of_lt hR]; omega
  have m : N * K % (y * K) = R0 := by
    rw [e, Nat.mul_comm (Q1 * B + Q0), Nat.mul_add_mod, Nat.mod_eq_of_lt hR]
  rw [Nat.mul_div_mul_right _ _ hK] at q
  rw [Nat.mul_mod_mul_right] at m
  refine ⟨q.symm, ?_, m.symm⟩
  rw [← m, Nat.mul_div_cancel _ hK]
end Go.Lib.D64

namespace Go.Proofs.YtjgnafhbeekebaaGreat.L1
open Go.Proofs.YtjgnafhbeekebaaGreat

/-- a fraction -/
structure Fr where
  n : Int
  d : Int
def Fr.flr (x : Fr) : Int := x.n / x.d
def Fr.cei (x : Fr) : Int := upI x.n x.d
def ltF (x y : Fr) : Bool := decide (x.n * y.d < y.n * x.d)
def leF (x y : Fr) : Prop := x.n * y.d ≤ y.n * x.d
def eqF (x y : Fr) : Prop := x.n * y.d = y.n * x.d
def ofI (c : Int) : Fr := ⟨c, 1⟩
theorem ltF_f {x y : Fr} : ltF x y = false ↔ leF y x := by unfold ltF leF; simp
theorem ltF_t {x y : Fr} : ltF x y = true ↔ ¬ leF y x := by unfold ltF leF; simp
theorem leF_refl (x : Fr) : leF x x := Int.le_refl _
theorem leF_total (x y : Fr) : leF x y ∨ leF y x := by unfold leF; omega
theorem leF_trans {x y z : Fr} (hx : 1 ≤ x.d) (hy : 1 ≤ y.d) (hz : 1 ≤ z.d) (h1 : leF x y) (h2 : leF y z) : leF x z := by
  unfold leF at *
  have a := Int.mul_le_mul_of_nonneg_right h1 (show 0 ≤ z.d by omega)
  have b := Int.mul_le_mul_of_nonneg_right h2 (show 0 ≤ x.d by omega)
  have c : (x.n * z.d) * y.d ≤ (z.n * x.d) * y.d := by grind
  exact Int.le_of_mul_le_mul_right c (by omega)
theorem eqF_le {x y : Fr} (h : eqF x y) : leF x y ∧ leF y x := by unfold eqF leF at *; omega
theorem le_eqF {x y : Fr} (h : leF x y) (h2 : leF y x) : eqF x y := by unfold eqF leF at *; omega
theorem ofI_le {c : Int} {x : Fr} (hx : 1 ≤ x.d) : leF (ofI c) x ↔ c ≤ x.flr := by
  unfold leF ofI Fr.flr
  rw [Int.le_ediv_iff_mul_le (by omega)]
  simp
theorem le_ofI {c : Int} {x : Fr} (hx : 1 ≤ x.d) : leF x (ofI c) ↔ x.cei ≤ c := by
  unfold leF ofI Fr.cei
  simp only [Int.mul_one]
  refine ⟨fun h => upI_le hx h, fun h => ?_⟩
  exact Int.le_trans (le_upI hx) (Int.mul_le_mul_of_nonneg_right h (by omega))
theorem flr_mono {x y : Fr} (hx : 1 ≤ x.d) (hy : 1 ≤ y.d) (h : leF x y) : x.flr ≤ y.flr :=
  (ofI_le hy).1 (leF_trans (by show (1 : Int) ≤ 1; omega) hx hy ((ofI_le hx).2 (Int.le_refl _)) h)
theorem cei_mono {x y : Fr} (hx : 1 ≤ x.d) (hy : 1 ≤ y.d) (h : leF x y) : x.cei ≤ y.cei :=
  (le_ofI hx).1 (leF_trans hx hy (by show (1 : Int) ≤ 1; omega) h ((le_ofI hy).2 (Int.le_refl _)))
theorem flr_le_cei {x : Fr} (hx : 1 ≤ x.d) : x.flr ≤ x.cei := by
  have := leF_trans (by show (1 : Int) ≤ 1; omega) hx (by show (1 : Int) ≤ 1; omega) ((ofI_le hx).2 (Int.le_refl x.flr)) ((le_ofI hx).2 (Int.le_refl x.cei))
  unfold leF ofI at this
  simpa using this
/-- the place between two numbers -/
def plV (L : Nat → Int) (n : Nat) (x : Int) : Nat := lb (fun i => L (i + 1)) (x + 1) (n - 2)
def Rises (L : Nat → Int) (n : Nat) : Prop := ∀ i, i + 1 < n → L i < L (i + 1)
theorem Rises.lt {L : Nat → Int} {n : Nat} (h : Rises L n) : ∀ a b, a < b → b < n → L a < L b := fun a b hab => by
  induction b with
  | zero => omega
  | succ b ih =>
    intro hb
    have h1 := h b hb
    rcases Nat.lt_or_eq_of_le (Nat.lt_succ_iff.1 hab) with h' | h'
    · have := ih h' (by omega); omega
    · rw [h']; exact h1
theorem Rises.le {L : Nat → Int} {n : Nat} (h : Rises L n) (a b : Nat) (hab : a ≤ b) (hb : b < n) : L a ≤ L b := by
  rcases Nat.lt_or_eq_of_le hab with h' | h'
  · exact Int.le_of_lt (h.lt a b h' hb)
  · rw [h']; exact Int.le_refl _
theorem plV_le (L : Nat → Int) (n : Nat) (x : Int) : plV L n x ≤ n - 2 := lb_le _ _ _
theorem plV_in {L : Nat → Int} {n : Nat} {x : Int} (hn : 2 ≤ n) (h0 : L 0 ≤ x) (h1 : x ≤ L (n - 1)) : L (plV L n x) ≤ x ∧ x ≤ L (plV L n x + 1) := by
  have hle := plV_le L n x
  refine ⟨?_, ?_⟩
  · rcases Nat.eq_zero_or_pos (plV L n x) with h | h
    · rw [h]; exact h0
    · have := lb_lt (fun i => L (i + 1)) (x + 1) (n - 2) (plV L n x - 1) (by show _ < plV L n x; omega)
      simp only [show plV L n x - 1 + 1 = plV L n x by omega] at this
      omega
  · rcases Nat.lt_or_eq_of_le hle with h | h
    · have := lb_stop (fun i => L (i + 1)) (x + 1) (n - 2) h
      have e : lb (fun i => L (i + 1)) (x + 1) (n - 2) = plV L n x := rfl
      rw [e] at this
      omega
    · rw [h, show n - 2 + 1 = n - 1 by omega]; exact h1
theorem plV_cell {L : Nat → Int} {n k : Nat} {x : Int} (hr : Rises L n) (hk : k + 1 < n) (h0 : L k ≤ x) (h1 : x ≤ L (k + 1)) :
    plV L n x = k ∨ plV L n x = k + 1 ∧ x = L (k + 1) ∧ k + 2 < n := by
  have hle := plV_le L n x
  have a0 := hr.le 0 k (by omega) (by omega)
  have a1 := hr.le (k + 1) (n - 1) (by omega) (by omega)
  obtain ⟨p0, p1⟩ := plV_in (L := L) (n := n) (x := x) (by omega) (by omega) (by omega)
  rcases Nat.lt_trichotomy (plV L n x) k with h | h | h
  · have st := lb_stop (fun i => L (i + 1)) (x + 1) (n - 2) (by show plV L n x < n - 2; omega)
    have e : lb (fun i => L (i + 1)) (x + 1) (n - 2) = plV L n x := rfl
    rw [e] at st
    have := hr.le (plV L n x + 1) k (by omega) (by omega)
    omega
  · exact .inl h
  · right
    have := hr.le (k + 1) (plV L n x) (by omega) (by omega)
    have hx : x = L (k + 1) := by omega
    rcases Nat.lt_or_eq_of_le (show k + 1 ≤ plV L n x by omega) with h' | h'
    · have := hr.lt (k + 1) (plV L n x) h' (by omega)
      omega
    · exact ⟨h'.symm, hx, by omega⟩
/-- the value in a cell of the table -/
def cellN (T S : Nat → Int) (M : Nat → Nat → Int) (i k : Nat) (x y : Int) : Int :=
  ((T (i + 1) - T i) - (x - T i)) * (((S (k + 1) - S k) - (y - S k)) * M i k + (y - S k) * M i (k + 1)) + (x - T i) * (((S (k + 1) - S k) - (y - S k)) * M (i + 1) k + (y - S k) * M (i + 1) (k + 1))
def cellF (T S : Nat → Int) (M : Nat → Nat → Int) (i k : Nat) (x y : Int) : Fr := ⟨cellN T S M i k x y, (T (i + 1) - T i) * (S (k + 1) - S k)⟩
def valF (T S : Nat → Int) (nT nS : Nat) (M : Nat → Nat → Int) (x y : Int) : Fr := cellF T S M (plV T nT x) (plV S nS y) x y
section
variable {T S : Nat → Int} {nT nS : Nat} {M : Nat → Nat → Int}
theorem mul_pos1 {a b : Int} (ha : 1 ≤ a) (hb : 1 ≤ b) : 1 ≤ a * b := by have := Int.mul_le_mul ha hb (by omega) (by omega); omega
theorem cellF_d (hT : Rises T nT) (hS : Rises S nS) {i k : Nat} (hi : i + 1 < nT) (hk : k + 1 < nS) (x y : Int) : 1 ≤ (cellF T S M i k x y).d :=
  mul_pos1 (by have := hT i hi; omega) (by have := hS k hk; omega)
theorem valF_d (hT : Rises T nT) (hS : Rises S nS) (h1 : 2 ≤ nT) (h2 : 2 ≤ nS) (x y : Int) : 1 ≤ (valF T S nT nS M x y).d :=
  cellF_d hT hS (by have := plV_le T nT x; omega) (by have := plV_le S nS y; omega) x y
theorem cell_next_t {i k : Nat} {y : Int} : eqF (cellF T S M (i + 1) k (T (i + 1)) y) (cellF T S M i k (T (i + 1)) y) := by
  unfold eqF cellF cellN
  simp only
  grind
theorem cell_next_s {i k : Nat} {x : Int} : eqF (cellF T S M i (k + 1) x (S (k + 1))) (cellF T S M i k x (S (k + 1))) := by
  unfold eqF cellF cellN
  simp only
  grind
theorem val_cell (hT : Rises T nT) (hS : Rises S nS) {i k : Nat} (hi : i + 1 < nT) (hk : k + 1 < nS) {x y : Int} (x0 : T i ≤ x) (x1 : x ≤ T (i + 1)) (y0 : S k ≤ y) (y1 : y ≤ S (k + 1)) :
    eqF (valF T S nT nS M x y) (cellF T S M i k x y) := by
  unfold valF
  have key : ∀ i', i' + 1 < nT → eqF (cellF T S M i' (plV S nS y) x y) (cellF T S M i' k x y) := fun i' hi' => by
    rcases plV_cell hS hk y0 y1 with e | ⟨e, e2, _⟩
    · rw [e]; exact rfl
    · rw [e, e2]; exact cell_next_s
  rcases plV_cell hT hi x0 x1 with e | ⟨e, e2, h3⟩
  · rw [e]; exact key i hi
  · rw [e]
    have a := key (i + 1) (by omega)
    have b : eqF (cellF T S M (i + 1) k x y) (cellF T S M i k x y) := by rw [e2]; exact cell_next_t
    have d1 := cellF_d (M := M) hT hS (i := i + 1) (k := k) (by omega) hk x y
    have d2 := cellF_d (M := M) hT hS (i := i) (k := k) (by omega) hk x y
    have d3 : 1 ≤ (cellF T S M (i + 1) (plV S nS y) x y).d := cellF_d (M := M) hT hS (by omega) (by have := plV_le S nS y; omega) x y
    exact le_eqF (leF_trans d3 d1 d2 (eqF_le a).1 (eqF_le b).1) (leF_trans d2 d1 d3 (eqF_le b).2 (eqF_le a).2)
theorem cell_mono {i k : Nat} {x y y' : Int} (x0 : T i ≤ x) (x1 : x ≤ T (i + 1)) (hyy : y ≤ y') (h0 : M i k ≤ M i (k + 1)) (h1 : M (i + 1) k ≤ M (i + 1) (k + 1)) : cellN T S M i k x y ≤ cellN T S M i k x y' := by
  have a := Int.mul_nonneg (show 0 ≤ (T (i + 1) - T i) - (x - T i) by omega) (show 0 ≤ M i (k + 1) - M i k by omega)
  have b := Int.mul_nonneg (show 0 ≤ x - T i by omega) (show 0 ≤ M (i + 1) (k + 1) - M (i + 1) k by omega)
  have c := Int.mul_nonneg (show 0 ≤ y' - y by omega) (Int.add_nonneg a b)
  have e : cellN T S M i k x y' - cellN T S M i k x y = (y' - y) * (((T (i + 1) - T i) - (x - T i)) * (M i (k + 1) - M i k) + (x - T i) * (M (i + 1) (k + 1) - M (i + 1) k)) := by unfold cellN; grind
  omega
theorem val_step (hT : Rises T nT) (hS : Rises S nS) (h1 : 2 ≤ nT) (h2 : 2 ≤ nS) (hM : ∀ i, i < nT → Rises (M i) nS) {x y : Int} (x0 : T 0 ≤ x) (x1 : x ≤ T (nT - 1)) (y0 : S 0 ≤ y) (y1 : y + 1 ≤ S (nS - 1)) :
    leF (valF T S nT nS M x y) (valF T S nT nS M x (y + 1)) := by
  obtain ⟨a0, a1⟩ := plV_in h1 x0 x1
  have la := plV_le T nT x
  have lk := plV_le S nS y
  obtain ⟨b0, b1⟩ := plV_in (L := S) (n := nS) (x := y) h2 y0 (by omega)
  have b2 : y < S (plV S nS y + 1) := by
    rcases Nat.lt_or_eq_of_le lk with h | h
    · have := lb_stop (fun i => S (i + 1)) (y + 1) (nS - 2) h
      have e : lb (fun i => S (i + 1)) (y + 1) (nS - 2) = plV S nS y := rfl
      rw [e] at this
      omega
    · rw [h, show nS - 2 + 1 = nS - 1 by omega]; omega
  have v2 := val_cell (M := M) hT hS (i := plV T nT x) (k := plV S nS y) (by omega) (by omega) a0 a1 (y := y + 1) (by omega) (by omega)
  have m := cell_mono (S := S) (M := M) (k := plV S nS y) (y := y) (y' := y + 1) a0 a1 (by omega) (Int.le_of_lt (hM _ (by omega) _ (by omega))) (Int.le_of_lt (hM _ (by omega) _ (by omega)))
  have d1 := cellF_d (M := M) hT hS (i := plV T nT x) (k := plV S nS y) (by omega) (by omega) x (y + 1)
  have d0 := valF_d (M := M) hT hS h1 h2 x y
  have d2 := valF_d (M := M) hT hS h1 h2 x (y + 1)
  refine leF_trans d0 d1 d2 ?_ (eqF_le v2).2
  unfold valF leF cellF
  simp only
  exact Int.mul_le_mul_of_nonneg_right m (by unfold cellF at d1; simp only at d1; omega)
theorem val_mono (hT : Rises T nT) (hS : Rises S nS) (h1 : 2 ≤ nT) (h2 : 2 ≤ nS) (hM : ∀ i, i < nT → Rises (M i) nS) {x y : Int} (x0 : T 0 ≤ x) (x1 : x ≤ T (nT - 1)) (y0 : S 0 ≤ y) :
    ∀ j : Nat, y + j ≤ S (nS - 1) → leF (valF T S nT nS M x y) (valF T S nT nS M x (y + j))
  | 0, _ => by simp only [Int.natCast_zero, Int.add_zero]; exact leF_refl _
  | j + 1, h => by
    have ih := val_mono hT hS h1 h2 hM x0 x1 y0 j (by omega)
    have st := val_step (M := M) hT hS h1 h2 hM x0 x1 (y := y + j) (by omega) (by omega)
    rw [show y + ((j + 1 : Nat) : Int) = y + j + 1 by omega]
    exact leF_trans (valF_d hT hS h1 h2 _ _) (valF_d hT hS h1 h2 _ _) (valF_d hT hS h1 h2 _ _) ih st
theorem val_mono' (hT : Rises T nT) (hS : Rises S nS) (h1 : 2 ≤ nT) (h2 : 2 ≤ nS) (hM : ∀ i, i < nT → Rises (M i) nS) {x y y' : Int} (x0 : T 0 ≤ x) (x1 : x ≤ T (nT - 1)) (y0 : S 0 ≤ y) (hy : y ≤ y') (y1 : y' ≤ S (nS - 1)) :
    leF (valF T S nT nS M x y) (valF T S nT nS M x y') := by
  have := val_mono (M := M) hT hS h1 h2 hM x0 x1 y0 (y' - y).toNat (by omega)
  rwa [show y + ((y' - y).toNat : Int) = y' by omega] at this
theorem aff_nonneg {p q a b x : Int} (ha : a ≤ x) (hb : x ≤ b) (h1 : 0 ≤ p + q * a) (h2 : 0 ≤ p + q * b) : 0 ≤ p + q * x := by
  rcases Int.le_total 0 q with h | h
  · have := Int.mul_le_mul_of_nonneg_left ha h; omega
  · have := Int.mul_le_mul_of_nonpos_left h hb; omega
/-- a bound at the four corners holds between them -/
theorem cell_between {i k : Nat} {x y xa xb ya yb s c : Int} (h1 : xa ≤ x) (h2 : x ≤ xb) (h3 : ya ≤ y) (h4 : y ≤ yb)
    (c1 : 0 ≤ cellN T S M i k xa ya * s + c) (c2 : 0 ≤ cellN T S M i k xa yb * s + c) (c3 : 0 ≤ cellN T S M i k xb ya * s + c) (c4 : 0 ≤ cellN T S M i k xb yb * s + c) : 0 ≤ cellN T S M i k x y * s + c := by
  have ex : ∀ x y, cellN T S M i k x y * s + c = ((T (i + 1) * (((S (k + 1) - S k) - (y - S k)) * M i k + (y - S k) * M i (k + 1)) - T i * (((S (k + 1) - S k) - (y - S k)) * M (i + 1) k + (y - S k) * M (i + 1) (k + 1))) * s + c) +
      (((((S (k + 1) - S k) - (y - S k)) * M (i + 1) k + (y - S k) * M (i + 1) (k + 1)) - (((S (k + 1) - S k) - (y - S k)) * M i k + (y - S k) * M i (k + 1))) * s) * x := fun x y => by unfold cellN; grind
  have ey : ∀ x y, cellN T S M i k x y * s + c = (((T (i + 1) - x) * (S (k + 1) * M i k - S k * M i (k + 1)) + (x - T i) * (S (k + 1) * M (i + 1) k - S k * M (i + 1) (k + 1))) * s + c) +
      (((T (i + 1) - x) * (M i (k + 1) - M i k) + (x - T i) * (M (i + 1) (k + 1) - M (i + 1) k)) * s) * y := fun x y => by unfold cellN; grind
  have r1 : 0 ≤ cellN T S M i k x ya * s + c := by
    rw [ex] at c1 c3 ⊢
    exact aff_nonneg h1 h2 c1 c3
  have r2 : 0 ≤ cellN T S M i k x yb * s + c := by
    rw [ex] at c2 c4 ⊢
    exact aff_nonneg h1 h2 c2 c4
  rw [ey] at r1 r2 ⊢
  exact aff_nonneg h3 h4 r1 r2
end
def okN (p : Nat → Bool) : Nat → Nat
  | 0 => 0
  | n + 1 => if okN p n = n ∧ p n = true then n + 1 else okN p n
theorem okN_le (p : Nat → Bool) : ∀ n, okN p n ≤ n
  | 0 => Nat.le_refl _
  | n + 1 => by unfold okN; have := okN_le p n; split <;> omega
theorem okN_lt (p : Nat → Bool) : ∀ n t, t < okN p n → p t = true
  | 0, t, h => by simp [okN] at h
  | n + 1, t, h => by
    unfold okN at h
    split at h
    · rename_i hc
      by_cases e : t = n
      · rw [e]; exact hc.2
      · exact okN_lt p n t (by rw [hc.1]; omega)
    · exact okN_lt p n t h
theorem okN_bad (p : Nat → Bool) : ∀ n, okN p n < n → p (okN p n) = false
  | 0, h => by simp at h
  | n + 1, h => by
    unfold okN at h ⊢
    split
    · rename_i hc; simp only [hc, and_self, if_true] at h; omega
    · rename_i hc
      simp only [hc, if_false] at h
      by_cases e : okN p n = n
      · rw [e]; exact Bool.eq_false_iff.2 fun hx => hc ⟨e, hx⟩
      · exact okN_bad p n (by have := okN_le p n; omega)
theorem okN_unique {p : Nat → Bool} {n i : Nat} (hi : i ≤ n) (h1 : ∀ t, t < i → p t = true) (h2 : i < n → p i = false) : i = okN p n := by
  have l := okN_le p n
  rcases Nat.lt_trichotomy i (okN p n) with h | h | h
  · have := okN_lt p n i h
    rw [h2 (by omega)] at this; cases this
  · exact h
  · have := h1 _ h
    rw [okN_bad p n (by omega)] at this; cases this
/-- the marks of a span, in the program's order -/
def marksP (L : Nat → Int) (n : Nat) (lo hi : Int) : List Int := ((List.range n).map L).filter (fun x => inB x lo hi) ++ [lo, hi]
/-- in the document's order -/
def marksR (L : Nat → Int) (n : Nat) (lo hi : Int) : List Int := lo :: hi :: ((List.range n).map L).filter (fun x => inB x lo hi)
def IsMark (L : Nat → Int) (n : Nat) (lo hi x : Int) : Prop := x = lo ∨ x = hi ∨ lo ≤ x ∧ x ≤ hi ∧ ∃ i, i < n ∧ L i = x
theorem mem_marksP {L : Nat → Int} {n : Nat} {lo hi x : Int} : x ∈ marksP L n lo hi ↔ IsMark L n lo hi x := by
  simp only [marksP, IsMark, List.mem_append, List.mem_filter, List.mem_map, List.mem_range, inB_t, List.mem_cons, List.not_mem_nil, or_false]
  constructor
  · rintro (⟨h1, h2⟩ | h | h)
    · exact .inr (.inr ⟨h2.1, h2.2, h1⟩)
    · exact .inl h
    · exact .inr (.inl h)
  · rintro (h | h | ⟨h1, h2, h3⟩)
    · exact .inr (.inl h)
    · exact .inr (.inr h)
    · exact .inl ⟨h3, h1, h2⟩
theorem mem_marksR {L : Nat → Int} {n : Nat} {lo hi x : Int} : x ∈ marksR L n lo hi ↔ IsMark L n lo hi x := by
  rw [← mem_marksP]
  simp only [marksP, marksR, List.mem_append, List.mem_cons, List.not_mem_nil, or_false]
  constructor
  · rintro (h | h | h)
    · exact .inr (.inl h)
    · exact .inr (.inr h)
    · exact .inl h
  · rintro (h | h | h)
    · exact .inr (.inr h)
    · exact .inl h
    · exact .inr (.inl h)
theorem marksP_len (L : Nat → Int) (n : Nat) (lo hi : Int) : 2 ≤ (marksP L n lo hi).length ∧ (marksP L n lo hi).length ≤ n + 2 := by
  have := List.length_filter_le (fun x => inB x lo hi) ((List.range n).map L)
  simp [marksP] at this ⊢
  omega
theorem marksR_len (L : Nat → Int) (n : Nat) (lo hi : Int) : 2 ≤ (marksR L n lo hi).length ∧ (marksR L n lo hi).length ≤ n + 2 := by
  have := List.length_filter_le (fun x => inB x lo hi) ((List.range n).map L)
  simp [marksR] at this ⊢
  omega
/-- one more value is looked at -/
def lowS (v m : Fr) : Fr := if m.d = 0 ∨ ltF v m = true then v else m
def highS (v m : Fr) : Fr := if m.d = 0 ∨ ltF m v = true then v else m
def lowN (f : Nat → Fr) : Nat → Fr
  | 0 => ⟨0, 0⟩
  | n + 1 => lowS (f n) (lowN f n)
def highN (f : Nat → Fr) : Nat → Fr
  | 0 => ⟨0, 0⟩
  | n + 1 => highS (f n) (highN f n)
theorem lowN_spec {f : Nat → Fr} : ∀ n, (∀ j, j < n → 1 ≤ (f j).d) → 1 ≤ n → (∃ j, j < n ∧ lowN f n = f j) ∧ ∀ j, j < n → leF (lowN f n) (f j)
  | 0, _, h => by omega
  | n + 1, hd, _ => by
    rcases Nat.eq_zero_or_pos n with h0 | h0
    · subst h0
      have e : lowN f 1 = f 0 := by simp [lowN, lowS]
      rw [e]
      exact ⟨⟨0, by omega, rfl⟩, fun j hj => by obtain rfl : j = 0 := by omega
                                                exact leF_refl _⟩
    · obtain ⟨⟨k, hk, e⟩, hl⟩ := lowN_spec n (fun j hj => hd j (by omega)) h0
      have dk : 1 ≤ (lowN f n).d := by rw [e]; exact hd k (by omega)
      have e2 : lowN f (n + 1) = lowS (f n) (lowN f n) := rfl
      rw [e2]; unfold lowS
      by_cases hc : ltF (f n) (lowN f n) = true
      · rw [if_pos (.inr hc)]
        refine ⟨⟨n, by omega, rfl⟩, fun j hj => ?_⟩
        rcases Nat.lt_or_eq_of_le (Nat.lt_succ_iff.1 hj) with h | h
        · have := ltF_t.1 hc
          have h3 := (leF_total (f n) (lowN f n)).resolve_right this
          exact leF_trans (hd n (by omega)) dk (hd j (by omega)) h3 (hl j h)
        · rw [h]; exact leF_refl _
      · rw [if_neg (by rintro (h | h); · omega
                       · exact hc h)]
        refine ⟨⟨k, by omega, e⟩, fun j hj => ?_⟩
        rcases Nat.lt_or_eq_of_le (Nat.lt_succ_iff.1 hj) with h | h
        · exact hl j h
        · rw [h]; exact ltF_f.1 (by simpa using hc)
theorem highN_spec {f : Nat → Fr} : ∀ n, (∀ j, j < n → 1 ≤ (f j).d) → 1 ≤ n → (∃ j, j < n ∧ highN f n = f j) ∧ ∀ j, j < n → leF (f j) (highN f n)
  | 0, _, h => by omega
  | n + 1, hd, _ => by
    rcases Nat.eq_zero_or_pos n with h0 | h0
    · subst h0
      have e : highN f 1 = f 0 := by simp [highN, highS]
      rw [e]
      exact ⟨⟨0, by omega, rfl⟩, fun j hj => by obtain rfl : j = 0 := by omega
                                                exact leF_refl _⟩
    · obtain ⟨⟨k, hk, e⟩, hl⟩ := highN_spec n (fun j hj => hd j (by omega)) h0
      have dk : 1 ≤ (highN f n).d := by rw [e]; exact hd k (by omega)
      have e2 : highN f (n + 1) = highS (f n) (highN f n) := rfl
      rw [e2]; unfold highS
      by_cases hc : ltF (highN f n) (f n) = true
      · rw [if_pos (.inr hc)]
        refine ⟨⟨n, by omega, rfl⟩, fun j hj => ?_⟩
        rcases Nat.lt_or_eq_of_le (Nat.lt_succ_iff.1 hj) with h | h
        · have := ltF_t.1 hc
          have h3 := (leF_total (highN f n) (f n)).resolve_right this
          exact leF_trans (hd j (by omega)) dk (hd n (by omega)) (hl j h) h3
        · rw [h]; exact leF_refl _
      · rw [if_neg (by rintro (h | h); · omega
                       · exact hc h)]
        refine ⟨⟨k, by omega, e⟩, fun j hj => ?_⟩
        rcases Nat.lt_or_eq_of_le (Nat.lt_succ_iff.1 hj) with h | h
        · exact hl j h
        · rw [h]; exact ltF_f.1 (by simpa using hc)
/-- the same with a start -/
def rlowN (f : Nat → Fr) (v : Fr) : Nat → Fr
  | 0 => v
  | n + 1 => if ltF (f n) (rlowN f v n) = true then f n else rlowN f v n
def rhighN (f : Nat → Fr) (v : Fr) : Nat → Fr
  | 0 => v
  | n + 1 => if ltF (rhighN f v n) (f n) = true then f n else rhighN f v n
theorem rlowN_spec {f : Nat → Fr} {v : Fr} (hv : 1 ≤ v.d) : ∀ n, (∀ j, j < n → 1 ≤ (f j).d) → (rlowN f v n = v ∨ ∃ j, j < n ∧ rlowN f v n = f j) ∧ 1 ≤ (rlowN f v n).d ∧ ∀ j, j < n → leF (rlowN f v n) (f j)
  | 0, _ => ⟨.inl rfl, hv, fun j hj => by omega⟩
  | n + 1, hd => by
    obtain ⟨hk, dk, hl⟩ := rlowN_spec hv n (fun j hj => hd j (by omega))
    unfold rlowN
    by_cases hc : ltF (f n) (rlowN f v n) = true
    · rw [if_pos hc]
      refine ⟨.inr ⟨n, by omega, rfl⟩, hd n (by omega), fun j hj => ?_⟩
      rcases Nat.lt_or_eq_of_le (Nat.lt_succ_iff.1 hj) with h | h
      · exact leF_trans (hd n (by omega)) dk (hd j (by omega)) ((leF_total _ _).resolve_right (ltF_t.1 hc)) (hl j h)
      · rw [h]; exact leF_refl _
    · rw [if_neg hc]
      refine ⟨hk.imp id fun ⟨j, hj, e⟩ => ⟨j, by omega, e⟩, dk, fun j hj => ?_⟩
      rcases Nat.lt_or_eq_of_le (Nat.lt_succ_iff.1 hj) with h | h
      · exact hl j h
      · rw [h]; exact ltF_f.1 (by simpa using hc)
theorem rhighN_spec {f : Nat → Fr} {v : Fr} (hv : 1 ≤ v.d) : ∀ n, (∀ j, j < n → 1 ≤ (f j).d) → (rhighN f v n = v ∨ ∃ j, j < n ∧ rhighN f v n = f j) ∧ 1 ≤ (rhighN f v n).d ∧ ∀ j, j < n → leF (f j) (rhighN f v n)
  | 0, _ => ⟨.inl rfl, hv, fun j hj => by omega⟩
  | n + 1, hd => by
    obtain ⟨hk, dk, hl⟩ := rhighN_spec hv n (fun j hj => hd j (by omega))
    unfold rhighN
    by_cases hc : ltF (rhighN f v n) (f n) = true
    · rw [if_pos hc]
      refine ⟨.inr ⟨n, by omega, rfl⟩, hd n (by omega), fun j hj => ?_⟩
      rcases Nat.lt_or_eq_of_le (Nat.lt_succ_iff.1 hj) with h | h
      · exact leF_trans (hd j (by omega)) dk (hd n (by omega)) (hl j h) ((leF_total _ _).resolve_right (ltF_t.1 hc))
      · rw [h]; exact leF_refl _
    · rw [if_neg hc]
      refine ⟨hk.imp id fun ⟨j, hj, e⟩ => ⟨j, by omega, e⟩, dk, fun j hj => ?_⟩
      rcases Nat.lt_or_eq_of_le (Nat.lt_succ_iff.1 hj) with h | h
      · exact hl j h
      · rw [h]; exact ltF_f.1 (by simpa using hc)
/-- the value at the p-th corner -/
def cornF (T S : Nat → Int) (nT nS : Nat) (M : Nat → Nat → Int) (mt ms : List Int) (p : Nat) : Fr := valF T S nT nS M (mt.getD (p / ms.length) 0) (ms.getD (p % ms.length) 0)
theorem corn_div {m n p : Nat} (hp : p < m * n) : p / n < m ∧ p % n < n := by
  have hn : 0 < n := by
    rcases Nat.eq_zero_or_pos n with h | h
    · rw [h, Nat.mul_zero] at hp; omega
    · exact h
  exact ⟨(Nat.div_lt_iff_lt_mul hn).2 hp, Nat.mod_lt _ hn⟩
theorem corn_at {n i k : Nat} (hk : k < n) : (i * n + k) / n = i ∧ (i * n + k) % n = k := by
  have hn : 0 < n := by omega
  refine ⟨?_, ?_⟩
  · rw [Nat.mul_comm, Nat.mul_add_div hn, Nat.div_eq_of_lt hk]; omega
  · rw [Nat.mul_comm, Nat.mul_add_mod, Nat.mod_eq_of_lt hk]
theorem corn_lt {m n i k : Nat} (hi : i < m) (hk : k < n) : i * n + k < m * n := by
  have := Nat.mul_le_mul_right n (show i + 1 ≤ m by omega)
  rw [Nat.add_mul] at this
  omega
section
variable (T S : Nat → Int) (nT nS : Nat) (M : Nat → Nat → Int) (tlo thi slo shi : Int)
/-- the ends, as the program finds them -/
def lowP : Fr := lowN (cornF T S nT nS M (marksP T nT tlo thi) (marksP S nS slo shi)) ((marksP T nT tlo thi).length * (marksP S nS slo shi).length)
def highP : Fr := highN (cornF T S nT nS M (marksP T nT tlo thi) (marksP S nS slo shi)) ((marksP T nT tlo thi).length * (marksP S nS slo shi).length)
/-- as the document does -/
def lowR : Fr := rlowN (cornF T S nT nS M (marksR T nT tlo thi) (marksR S nS slo shi)) (valF T S nT nS M tlo slo) ((marksR T nT tlo thi).length * (marksR S nS slo shi).length)
def highR : Fr := rhighN (cornF T S nT nS M (marksR T nT tlo thi) (marksR S nS slo shi)) (valF T S nT nS M tlo slo) ((marksR T nT tlo thi).length * (marksR S nS slo shi).length)
structure IsLow (v : Fr) : Prop where
  at_ : ∃ x y, IsMark T nT tlo thi x ∧ IsMark S nS slo shi y ∧ v = valF T S nT nS M x y
  le : ∀ x y, IsMark T nT tlo thi x → IsMark S nS slo shi y → leF v (valF T S nT nS M x y)
structure IsHigh (v : Fr) : Prop where
  at_ : ∃ x y, IsMark T nT tlo thi x ∧ IsMark S nS slo shi y ∧ v = valF T S nT nS M x y
  le : ∀ x y, IsMark T nT tlo thi x → IsMark S nS slo shi y → leF (valF T S nT nS M x y) v
end
section
variable {T S : Nat → Int} {nT nS : Nat} {M : Nat → Nat → Int} {tlo thi slo shi : Int}
theorem mem_getD {l : List Int} {x : Int} (h : x ∈ l) : ∃ i, i < l.length ∧ l.getD i 0 = x := by
  obtain ⟨i, hi, e⟩ := List.getElem_of_mem h
  exact ⟨i, hi, by rw [List.getD_eq_getElem?_getD, List.getElem?_eq_getElem hi, e]; rfl⟩
theorem getD_mem {l : List Int} {i : Nat} (h : i < l.length) : l.getD i 0 ∈ l := by
  rw [List.getD_eq_getElem?_getD, List.getElem?_eq_getElem h]
  exact List.getElem_mem h
theorem lowP_is (hT : Rises T nT) (hS : Rises S nS) (h1 : 2 ≤ nT) (h2 : 2 ≤ nS) : IsLow T S nT nS M tlo thi slo shi (lowP T S nT nS M tlo thi slo shi) := by
  have lt := (marksP_len T nT tlo thi).1
  have ls := (marksP_len S nS slo shi).1
  obtain ⟨⟨j, hj, e⟩, hl⟩ := lowN_spec (f := cornF T S nT nS M (marksP T nT tlo thi) (marksP S nS slo shi)) ((marksP T nT tlo thi).length * (marksP S nS slo shi).length) (fun j _ => valF_d hT hS h1 h2 _ _) (by have := Nat.mul_le_mul lt ls; omega)
  refine ⟨⟨_, _, mem_marksP.1 (getD_mem (corn_div hj).1), mem_marksP.1 (getD_mem (corn_div hj).2), e⟩, fun x y hx hy => ?_⟩
  obtain ⟨i, hi, rfl⟩ := mem_getD (mem_marksP.2 hx)
  obtain ⟨k, hk, rfl⟩ := mem_getD (mem_marksP.2 hy)
  have := hl _ (corn_lt hi hk)
  unfold cornF at this
  rw [(corn_at hk).1, (corn_at hk).2] at this
  exact this
theorem highP_is (hT : Rises T nT) (hS : Rises S nS) (h1 : 2 ≤ nT) (h2 : 2 ≤ nS) : IsHigh T S nT nS M tlo thi slo shi (highP T S nT nS M tlo thi slo shi) := by
  have lt := (marksP_len T nT tlo thi).1
  have ls := (marksP_len S nS slo shi).1
  obtain ⟨⟨j, hj, e⟩, hl⟩ := highN_spec (f := cornF T S nT nS M (marksP T nT tlo thi) (marksP S nS slo shi)) ((marksP T nT tlo thi).length * (marksP S nS slo shi).length) (fun j _ => valF_d hT hS h1 h2 _ _) (by have := Nat.mul_le_mul lt ls; omega)
  refine ⟨⟨_, _, mem_marksP.1 (getD_mem (corn_div hj).1), mem_marksP.1 (getD_mem (corn_div hj).2), e⟩, fun x y hx hy => ?_⟩
  obtain ⟨i, hi, rfl⟩ := mem_getD (mem_marksP.2 hx)
  obtain ⟨k, hk, rfl⟩ := mem_getD (mem_marksP.2 hy)
  have := hl _ (corn_lt hi hk)
  unfold cornF at this
  rw [(corn_at hk).1, (corn_at hk).2] at this
  exact this
theorem lowR_is (hT : Rises T nT) (hS : Rises S nS) (h1 : 2 ≤ nT) (h2 : 2 ≤ nS) : IsLow T S nT nS M tlo thi slo shi (lowR T S nT nS M tlo thi slo shi) := by
  obtain ⟨h, _, hl⟩ := rlowN_spec (f := cornF T S nT nS M (marksR T nT tlo thi) (marksR S nS slo shi)) (v := valF T S nT nS M tlo slo) (valF_d hT hS h1 h2 _ _) ((marksR T nT tlo thi).length * (marksR S nS slo shi).length) (fun j _ => valF_d hT hS h1 h2 _ _)
  refine ⟨?_, fun x y hx hy => ?_⟩
  · rcases h with e | ⟨j, hj, e⟩
    · exact ⟨tlo, slo, .inl rfl, .inl rfl, e⟩
    · exact ⟨_, _, mem_marksR.1 (getD_mem (corn_div hj).1), mem_marksR.1 (getD_mem (corn_div hj).2), e⟩
  · obtain ⟨i, hi, rfl⟩ := mem_getD (mem_marksR.2 hx)
    obtain ⟨k, hk, rfl⟩ := mem_getD (mem_marksR.2 hy)
    have := hl _ (corn_lt hi hk)
    unfold cornF at this
    rw [(corn_at hk).1, (corn_at hk).2] at this
    exact this
theorem highR_is (hT : Rises T nT) (hS : Rises S nS) (h1 : 2 ≤ nT) (h2 : 2 ≤ nS) : IsHigh T S nT nS M tlo thi slo shi (highR T S nT nS M tlo thi slo shi) := by
  obtain ⟨h, _, hl⟩ := rhighN_spec (f := cornF T S nT nS M (marksR T nT tlo thi) (marksR S nS slo shi)) (v := valF T S nT nS M tlo slo) (valF_d hT hS h1 h2 _ _) ((marksR T nT tlo thi).length * (marksR S nS slo shi).length) (fun j _ => valF_d hT hS h1 h2 _ _)
  refine ⟨?_, fun x y hx hy => ?_⟩
  · rcases h with e | ⟨j, hj, e⟩
    · exact ⟨tlo, slo, .inl rfl, .inl rfl, e⟩
    · exact ⟨_, _, mem_marksR.1 (getD_mem (corn_div hj).1), mem_marksR.1 (getD_mem (corn_div hj).2), e⟩
  · obtain ⟨i, hi, rfl⟩ := mem_getD (mem_marksR.2 hx)
    obtain ⟨k, hk, rfl⟩ := mem_getD (mem_marksR.2 hy)
    have := hl _ (corn_lt hi hk)
    unfold cornF at this
    rw [(corn_at hk).1, (corn_at hk).2] at this
    exact this
theorem IsLow.eq {u v : Fr} (a : IsLow T S nT nS M tlo thi slo shi u) (b : IsLow T S nT nS M tlo thi slo shi v) : eqF u v := by
  obtain ⟨x, y, hx, hy, e⟩ := a.at_
  obtain ⟨x', y', hx', hy', e'⟩ := b.at_
  exact le_eqF (e' ▸ a.le x' y' hx' hy') (e ▸ b.le x y hx hy)
theorem IsHigh.eq {u v : Fr} (a : IsHigh T S nT nS M tlo thi slo shi u) (b : IsHigh T S nT nS M tlo thi slo shi v) : eqF u v := by
  obtain ⟨x, y, hx, hy, e⟩ := a.at_
  obtain ⟨x', y', hx', hy', e'⟩ := b.at_
  exact le_eqF (e ▸ b.le x y hx hy) (e' ▸ a.le x' y' hx' hy')
/-- the marks about a number -/
theorem marks_about {L : Nat → Int} {n : Nat} {lo hi x : Int} (hn : 2 ≤ n) (h0 : L 0 ≤ lo) (h1 : hi ≤ L (n - 1)) (hx : lo ≤ x) (hx' : x ≤ hi) :
    ∃ k a b, k + 1 < n ∧ IsMark L n lo hi a ∧ IsMark L n lo hi b ∧ L k ≤ a ∧ a ≤ x ∧ x ≤ b ∧ b ≤ L (k + 1) := by
  obtain ⟨p0, p1⟩ := plV_in (L := L) (n := n) (x := x) hn (by omega) (by omega)
  have hp := plV_le L n x
  refine ⟨plV L n x, max lo (L (plV L n x)), min hi (L (plV L n x + 1)), by omega, ?_, ?_, by omega, by omega, by omega, by omega⟩
  · rcases Int.le_total (L (plV L n x)) lo with h | h
    · exact .inl (by omega)
    · exact .inr (.inr ⟨by omega, by omega, plV L n x, by omega, by omega⟩)
  · rcases Int.le_total hi (L (plV L n x + 1)) with h | h
    · exact .inr (.inl (by omega))
    · exact .inr (.inr ⟨by omega, by omega, plV L n x + 1, by omega, by omega⟩)
/-- at whatever numbers of the spans a value is no lower -/
theorem IsLow.all {v : Fr} (a : IsLow T S nT nS M tlo thi slo shi v) (hT : Rises T nT) (hS : Rises S nS) (h1 : 2 ≤ nT) (h2 : 2 ≤ nS) (t0 : T 0 ≤ tlo) (t1 : thi ≤ T (nT - 1)) (s0 : S 0 ≤ slo) (s1 : shi ≤ S (nS - 1))
    {x y : Int} (x0 : tlo ≤ x) (x1 : x ≤ thi) (y0 : slo ≤ y) (y1 : y ≤ shi) : leF v (valF T S nT nS M x y) := by
  obtain ⟨i, xa, xb, hi, ma, mb, qa, ra, rb, qb⟩ := marks_about h1 t0 t1 x0 x1
  obtain ⟨k, ya, yb, hk, na, nb, pa, oa, ob, pb⟩ := marks_about h2 s0 s1 y0 y1
  have vd : 1 ≤ v.d := by obtain ⟨x', y', _, _, e⟩ := a.at_; rw [e]; exact valF_d hT hS h1 h2 _ _
  have dd : ∀ x y, 1 ≤ (valF T S nT nS M x y).d := valF_d hT hS h1 h2
  have cd : ∀ x y, 1 ≤ (cellF T S M i k x y).d := cellF_d hT hS hi hk
  have key : ∀ x' y', IsMark T nT tlo thi x' → IsMark S nS slo shi y' → T i ≤ x' → x' ≤ T (i + 1) → S k ≤ y' → y' ≤ S (k + 1) → 0 ≤ cellN T S M i k x' y' * v.d + -(v.n * ((T (i + 1) - T i) * (S (k + 1) - S k))) := fun x' y' m1 m2 b1 b2 b3 b4 => by
    have l := leF_trans vd (dd x' y') (cd x' y') (a.le x' y' m1 m2) (eqF_le (val_cell hT hS hi hk b1 b2 b3 b4)).1
    unfold leF cellF at l
    simp only at l
    omega
  have h := cell_between (s := v.d) (c := -(v.n * ((T (i + 1) - T i) * (S (k + 1) - S k)))) ra rb oa ob (key xa ya ma na qa (by omega) pa (by omega)) (key xa yb ma nb qa (by omega) (by omega) pb) (key xb ya mb na (by omega) qb pa (by omega)) (key xb yb mb nb (by omega) qb (by omega) pb)
  have c := val_cell (M := M) hT hS hi hk (x := x) (y := y) (by omega) (by omega) (by omega) (by omega)
  refine leF_trans vd (cd x y) (dd x y) ?_ (eqF_le c).2
  unfold leF cellF
  simp only
  omega
theorem IsHigh.all {v : Fr} (a : IsHigh T S nT nS M tlo thi slo shi v) (hT : Rises T nT) (hS : Rises S nS) (h1 : 2 ≤ nT) (h2 : 2 ≤ nS) (t0 : T 0 ≤ tlo) (t1 : thi ≤ T (nT - 1)) (s0 : S 0 ≤ slo) (s1 : shi ≤ S (nS - 1))
    {x y : Int} (x0 : tlo ≤ x) (x1 : x ≤ thi) (y0 : slo ≤ y) (y1 : y ≤ shi) : leF (valF T S nT nS M x y) v := by
  obtain ⟨i, xa, xb, hi, ma, mb, qa, ra, rb, qb⟩ := marks_about h1 t0 t1 x0 x1
  obtain ⟨k, ya, yb, hk, na, nb, pa, oa, ob, pb⟩ := marks_about h2 s0 s1 y0 y1
  have vd : 1 ≤ v.d := by obtain ⟨x', y', _, _, e⟩ := a.at_; rw [e]; exact valF_d hT hS h1 h2 _ _
  have dd : ∀ x y, 1 ≤ (valF T S nT nS M x y).d := valF_d hT hS h1 h2
  have cd : ∀ x y, 1 ≤ (cellF T S M i k x y).d := cellF_d hT hS hi hk
  have key : ∀ x' y', IsMark T nT tlo thi x' → IsMark S nS slo shi y' → T i ≤ x' → x' ≤ T (i + 1) → S k ≤ y' → y' ≤ S (k + 1) → 0 ≤ cellN T S M i k x' y' * -v.d + (v.n * ((T (i + 1) - T i) * (S (k + 1) - S k))) := fun x' y' m1 m2 b1 b2 b3 b4 => by
    have l := leF_trans (cd x' y') (dd x' y') vd (eqF_le (val_cell hT hS hi hk b1 b2 b3 b4)).2 (a.le x' y' m1 m2)
    unfold leF cellF at l
    simp only at l
    rw [Int.mul_neg]
    omega
  have h := cell_between (s := -v.d) (c := (v.n * ((T (i + 1) - T i) * (S (k + 1) - S k)))) ra rb oa ob (key xa ya ma na qa (by omega) pa (by omega)) (key xa yb ma nb qa (by omega) (by omega) pb) (key xb ya mb na (by omega) qb pa (by omega)) (key xb yb mb nb (by omega) qb (by omega) pb)
  have c := val_cell (M := M) hT hS hi hk (x := x) (y := y) (by omega) (by omega) (by omega) (by omega)
  refine leF_trans (dd x y) (cd x y) vd (eqF_le c).1 ?_
  unfold leF cellF
  simp only
  rw [Int.mul_neg] at h
  omega
end
end Go.Proofs.YtjgnafhbeekebaaGreat.L1

namespace Go.Proofs.YtjgnafhbeekebaaGreat.L1
open Go.Proofs.YtjgnafhbeekebaaGreat

section
variable {T S : Nat → Int} {nT nS : Nat} {M : Nat → Nat → Int}
theorem cell_corner00 {i k : Nat} : cellN T S M i k (T i) (S k) = ((T (i + 1) - T i) * (S (k + 1) - S k)) * M i k := by unfold cellN; grind
theorem cell_corner01 {i k : Nat} : cellN T S M i k (T i) (S (k + 1)) = ((T (i + 1) - T i) * (S (k + 1) - S k)) * M i (k + 1) := by unfold cellN; grind
theorem cell_corner10 {i k : Nat} : cellN T S M i k (T (i + 1)) (S k) = ((T (i + 1) - T i) * (S (k + 1) - S k)) * M (i + 1) k := by unfold cellN; grind
theorem cell_corner11 {i k : Nat} : cellN T S M i k (T (i + 1)) (S (k + 1)) = ((T (i + 1) - T i) * (S (k + 1) - S k)) * M (i + 1) (k + 1) := by unfold cellN; grind
theorem cell_range {i k : Nat} {x y c1 c2 : Int} (hd : 1 ≤ (T (i + 1) - T i) * (S (k + 1) - S k)) (x0 : T i ≤ x) (x1 : x ≤ T (i + 1)) (y0 : S k ≤ y) (y1 : y ≤ S (k + 1))
    (h : ∀ a b, (a = i ∨ a = i + 1) → (b = k ∨ b = k + 1) → c1 ≤ M a b ∧ M a b ≤ c2) : leF (ofI c1) (cellF T S M i k x y) ∧ leF (cellF T S M i k x y) (ofI c2) := by
  obtain ⟨D, hD⟩ : ∃ D, (T (i + 1) - T i) * (S (k + 1) - S k) = D := ⟨_, rfl⟩
  have lo : ∀ a b, (a = i ∨ a = i + 1) → (b = k ∨ b = k + 1) → c1 * D ≤ D * M a b := fun a b ha hb => by
    rw [Int.mul_comm]; exact Int.mul_le_mul_of_nonneg_left (h a b ha hb).1 (by omega)
  have hi : ∀ a b, (a = i ∨ a = i + 1) → (b = k ∨ b = k + 1) → D * M a b ≤ c2 * D := fun a b ha hb => by
    rw [Int.mul_comm c2]; exact Int.mul_le_mul_of_nonneg_left (h a b ha hb).2 (by omega)
  have k1 := cell_between (T := T) (S := S) (M := M) (i := i) (k := k) (s := 1) (c := -(c1 * D)) x0 x1 y0 y1
    (by rw [cell_corner00, hD]; have := lo i k (.inl rfl) (.inl rfl); omega) (by rw [cell_corner01, hD]; have := lo i (k + 1) (.inl rfl) (.inr rfl); omega)
    (by rw [cell_corner10, hD]; have := lo (i + 1) k (.inr rfl) (.inl rfl); omega) (by rw [cell_corner11, hD]; have := lo (i + 1) (k + 1) (.inr rfl) (.inr rfl); omega)
  have k2 := cell_between (T := T) (S := S) (M := M) (i := i) (k := k) (s := -1) (c := c2 * D) x0 x1 y0 y1
    (by rw [cell_corner00, hD]; have := hi i k (.inl rfl) (.inl rfl); omega) (by rw [cell_corner01, hD]; have := hi i (k + 1) (.inl rfl) (.inr rfl); omega)
    (by rw [cell_corner10, hD]; have := hi (i + 1) k (.inr rfl) (.inl rfl); omega) (by rw [cell_corner11, hD]; have := hi (i + 1) (k + 1) (.inr rfl) (.inr rfl); omega)
  unfold leF ofI cellF
  simp only
  rw [hD]
  omega
theorem val_range {x y c1 c2 : Int} (hT : Rises T nT) (hS : Rises S nS) (h1 : 2 ≤ nT) (h2 : 2 ≤ nS) (x0 : T 0 ≤ x) (x1 : x ≤ T (nT - 1)) (y0 : S 0 ≤ y) (y1 : y ≤ S (nS - 1))
    (h : ∀ a b, a < nT → b < nS → c1 ≤ M a b ∧ M a b ≤ c2) : leF (ofI c1) (valF T S nT nS M x y) ∧ leF (valF T S nT nS M x y) (ofI c2) := by
  obtain ⟨a0, a1⟩ := plV_in h1 x0 x1
  obtain ⟨b0, b1⟩ := plV_in h2 y0 y1
  have la := plV_le T nT x
  have lk := plV_le S nS y
  exact cell_range (cellF_d (M := M) hT hS (i := plV T nT x) (k := plV S nS y) (by omega) (by omega) x y) a0 a1 b0 b1 (fun a b ha hb => h a b (by omega) (by omega))
end
/-- a table -/
structure Tb where
  nT : Nat
  nS : Nat
  T : Nat → Int
  S : Nat → Int
  H : Nat → Nat → Int
  R : Nat → Nat → Int
namespace Tb
def first (t : Tb) : Int := t.S 0
def last (t : Tb) : Int := t.S (t.nS - 1)
structure Ok (t : Tb) : Prop where
  t2 : 2 ≤ t.nT
  t32 : t.nT ≤ 32
  s2 : 2 ≤ t.nS
  s32 : t.nS ≤ 32
  rT : Rises t.T t.nT
  rS : Rises t.S t.nS
  bT : ∀ i, i < t.nT → -500 ≤ t.T i ∧ t.T i ≤ 1000
  bS : ∀ k, k < t.nS → 0 ≤ t.S k ∧ t.S k ≤ 10000
  rH : ∀ i, i < t.nT → Rises (t.H i) t.nS
  bH : ∀ i k, i < t.nT → k < t.nS → -10000 ≤ t.H i k ∧ t.H i k ≤ 20000
  bR : ∀ i k, i < t.nT → k < t.nS → 900000 ≤ t.R i k ∧ t.R i k ≤ 1100000
/-- a span of temperatures, of strengths fits -/
structure FitT (t : Tb) (lo hi : Int) : Prop where
  a : t.T 0 ≤ lo
  b : lo ≤ hi
  c : hi ≤ t.T (t.nT - 1)
structure FitS (t : Tb) (lo hi : Int) : Prop where
  a : t.S 0 ≤ lo
  b : lo ≤ hi
  c : hi ≤ t.S (t.nS - 1)
variable (t : Tb)
def hv (x y : Int) : Fr := valF t.T t.S t.nT t.nS t.H x y
def rv (x y : Int) : Fr := valF t.T t.S t.nT t.nS t.R x y
def lowH (slo shi tlo thi : Int) : Fr := lowP t.T t.S t.nT t.nS t.H tlo thi slo shi
def highH (slo shi tlo thi : Int) : Fr := highP t.T t.S t.nT t.nS t.H tlo thi slo shi
def lowV (slo shi tlo thi : Int) : Fr := lowP t.T t.S t.nT t.nS t.R tlo thi slo shi
def highV (slo shi tlo thi : Int) : Fr := highP t.T t.S t.nT t.nS t.R tlo thi slo shi
def seeL (tlo thi s : Int) : Fr := t.lowH s s tlo thi
def seeH (tlo thi s : Int) : Fr := t.highH s s tlo thi
def cnt : Nat := (t.last - t.first + 1).toNat
def frB (lo tlo thi : Int) (i : Nat) : Bool := decide (lo ≤ (t.seeH tlo thi (t.first + i)).flr)
def paB (hi tlo thi : Int) (i : Nat) : Bool := decide (hi < (t.seeL tlo thi (t.first + i)).cei)
/-- the first strength whose greatest number reaches lo, the first one whose least number passes hi -/
def frN (lo tlo thi : Int) : Nat := okN (fun i => !t.frB lo tlo thi i) t.cnt
def paN (hi tlo thi : Int) : Nat := okN (fun i => !t.paB hi tlo thi i) t.cnt
def noneB (lo hi tlo thi : Int) : Bool := decide (t.cnt ≤ t.frN lo tlo thi) || decide (t.paN hi tlo thi = 0)
def from_ (lo tlo thi : Int) : Int := t.first + t.frN lo tlo thi
def past (hi tlo thi : Int) : Int := t.first + t.paN hi tlo thi
/-- the results -/
def strLo (lo tlo thi : Int) : Int := if t.first < t.from_ lo tlo thi ∧ ¬ (t.seeH tlo thi (t.from_ lo tlo thi)).n = lo * (t.seeH tlo thi (t.from_ lo tlo thi)).d then t.from_ lo tlo thi - 1 else t.from_ lo tlo thi
def strHi (hi tlo thi : Int) : Int := if t.past hi tlo thi - 1 < t.last ∧ ¬ (t.seeL tlo thi (t.past hi tlo thi - 1)).n = hi * (t.seeL tlo thi (t.past hi tlo thi - 1)).d then t.past hi tlo thi else t.past hi tlo thi - 1
end Tb
section
variable {t : Tb} {lo hi tlo thi s s' : Int}
theorem Tb.Ok.hd (h : t.Ok) (x y : Int) : 1 ≤ (t.hv x y).d := valF_d h.rT h.rS h.t2 h.s2 x y
theorem Tb.Ok.rd (h : t.Ok) (x y : Int) : 1 ≤ (t.rv x y).d := valF_d h.rT h.rS h.t2 h.s2 x y
theorem Tb.Ok.len (h : t.Ok) : t.first < t.last := h.rS.lt 0 (t.nS - 1) (by have := h.s2; omega) (by have := h.s2; omega)
theorem mark_one {L : Nat → Int} {n : Nat} {a x : Int} (h : IsMark L n a a x) : x = a := by rcases h with h | h | ⟨h1, h2, _⟩ <;> omega
theorem mark_in {L : Nat → Int} {n : Nat} {a b x : Int} (hab : a ≤ b) (h : IsMark L n a b x) : a ≤ x ∧ x ≤ b := by rcases h with h | h | ⟨h1, h2, _⟩ <;> omega
theorem Tb.Ok.lowH_is (h : t.Ok) (slo shi tlo thi : Int) : IsLow t.T t.S t.nT t.nS t.H tlo thi slo shi (t.lowH slo shi tlo thi) := lowP_is h.rT h.rS h.t2 h.s2
theorem Tb.Ok.highH_is (h : t.Ok) (slo shi tlo thi : Int) : IsHigh t.T t.S t.nT t.nS t.H tlo thi slo shi (t.highH slo shi tlo thi) := highP_is h.rT h.rS h.t2 h.s2
theorem Tb.Ok.lowV_is (h : t.Ok) (slo shi tlo thi : Int) : IsLow t.T t.S t.nT t.nS t.R tlo thi slo shi (t.lowV slo shi tlo thi) := lowP_is h.rT h.rS h.t2 h.s2
theorem Tb.Ok.highV_is (h : t.Ok) (slo shi tlo thi : Int) : IsHigh t.T t.S t.nT t.nS t.R tlo thi slo shi (t.highV slo shi tlo thi) := highP_is h.rT h.rS h.t2 h.s2
theorem IsLow.d {T S : Nat → Int} {nT nS : Nat} {M : Nat → Nat → Int} {tlo thi slo shi : Int} {v : Fr} (a : IsLow T S nT nS M tlo thi slo shi v) (hT : Rises T nT) (hS : Rises S nS) (h1 : 2 ≤ nT) (h2 : 2 ≤ nS) : 1 ≤ v.d := by
  obtain ⟨x, y, _, _, e⟩ := a.at_; rw [e]; exact valF_d hT hS h1 h2 _ _
theorem IsHigh.d {T S : Nat → Int} {nT nS : Nat} {M : Nat → Nat → Int} {tlo thi slo shi : Int} {v : Fr} (a : IsHigh T S nT nS M tlo thi slo shi v) (hT : Rises T nT) (hS : Rises S nS) (h1 : 2 ≤ nT) (h2 : 2 ≤ nS) : 1 ≤ v.d := by
  obtain ⟨x, y, _, _, e⟩ := a.at_; rw [e]; exact valF_d hT hS h1 h2 _ _
theorem Tb.Ok.seeL_d (h : t.Ok) (tlo thi s : Int) : 1 ≤ (t.seeL tlo thi s).d := (h.lowH_is s s tlo thi).d h.rT h.rS h.t2 h.s2
theorem Tb.Ok.seeH_d (h : t.Ok) (tlo thi s : Int) : 1 ≤ (t.seeH tlo thi s).d := (h.highH_is s s tlo thi).d h.rT h.rS h.t2 h.s2
theorem Tb.Ok.seeL_mono (h : t.Ok) (ft : t.FitT tlo thi) (h0 : t.first ≤ s) (hs : s ≤ s') (h1 : s' ≤ t.last) : leF (t.seeL tlo thi s) (t.seeL tlo thi s') := by
  obtain ⟨x, y, hx, hy, e⟩ := (h.lowH_is s' s' tlo thi).at_
  have hy' := mark_one hy
  have hx' := mark_in ft.b hx
  have a := (h.lowH_is s s tlo thi).le x s hx (.inl rfl)
  have fa := ft.a
  have fc := ft.c
  have m := val_mono' (M := t.H) h.rT h.rS h.t2 h.s2 h.rH (x := x) (y := s) (y' := s') (by omega) (by omega) h0 hs h1
  have e2 : t.seeL tlo thi s' = valF t.T t.S t.nT t.nS t.H x s' := by rw [hy'] at e; exact e
  rw [e2]
  exact leF_trans (h.seeL_d _ _ _) (h.hd _ _) (h.hd _ _) a m
theorem Tb.Ok.seeH_mono (h : t.Ok) (ft : t.FitT tlo thi) (h0 : t.first ≤ s) (hs : s ≤ s') (h1 : s' ≤ t.last) : leF (t.seeH tlo thi s) (t.seeH tlo thi s') := by
  obtain ⟨x, y, hx, hy, e⟩ := (h.highH_is s s tlo thi).at_
  have hy' := mark_one hy
  have hx' := mark_in ft.b hx
  have a := (h.highH_is s' s' tlo thi).le x s' hx (.inl rfl)
  have fa := ft.a
  have fc := ft.c
  have m := val_mono' (M := t.H) h.rT h.rS h.t2 h.s2 h.rH (x := x) (y := s) (y' := s') (by omega) (by omega) h0 hs h1
  have e2 : t.seeH tlo thi s = valF t.T t.S t.nT t.nS t.H x s := by rw [hy'] at e; exact e
  rw [e2]
  exact leF_trans (h.hd _ _) (h.hd _ _) (h.seeH_d _ _ _) m a
theorem Tb.Ok.see_le (h : t.Ok) (tlo thi s : Int) : leF (t.seeL tlo thi s) (t.seeH tlo thi s) :=
  leF_trans (h.seeL_d _ _ _) (h.hd tlo s) (h.seeH_d _ _ _) ((h.lowH_is s s tlo thi).le tlo s (.inl rfl) (.inl rfl)) ((h.highH_is s s tlo thi).le tlo s (.inl rfl) (.inl rfl))
/-- what is shown is from -10000 to 20000 -/
theorem Tb.Ok.seeL_range (h : t.Ok) (ft : t.FitT tlo thi) (h0 : t.first ≤ s) (h1 : s ≤ t.last) : leF (ofI (-10000)) (t.seeL tlo thi s) ∧ leF (t.seeL tlo thi s) (ofI 20000) := by
  obtain ⟨x, y, hx, hy, e⟩ := (h.lowH_is s s tlo thi).at_
  have hy' := mark_one hy
  have hx' := mark_in ft.b hx
  have fa := ft.a
  have fc := ft.c
  have := val_range (M := t.H) (x := x) (y := y) h.rT h.rS h.t2 h.s2 (by omega) (by omega) (by rw [hy']; exact h0) (by rw [hy']; exact h1) h.bH
  rw [← e] at this
  exact this
theorem Tb.Ok.seeH_range (h : t.Ok) (ft : t.FitT tlo thi) (h0 : t.first ≤ s) (h1 : s ≤ t.last) : leF (ofI (-10000)) (t.seeH tlo thi s) ∧ leF (t.seeH tlo thi s) (ofI 20000) := by
  obtain ⟨x, y, hx, hy, e⟩ := (h.highH_is s s tlo thi).at_
  have hy' := mark_one hy
  have hx' := mark_in ft.b hx
  have fa := ft.a
  have fc := ft.c
  have := val_range (M := t.H) (x := x) (y := y) h.rT h.rS h.t2 h.s2 (by omega) (by omega) (by rw [hy']; exact h0) (by rw [hy']; exact h1) h.bH
  rw [← e] at this
  exact this
theorem Tb.cnt_lt {i : Nat} : i < t.cnt ↔ t.first + i ≤ t.last := by unfold Tb.cnt; omega
theorem ofI_le_ofI {a b : Int} : leF (ofI a) (ofI b) ↔ a ≤ b := by unfold leF ofI; simp
/-- P at s: the greatest number reaches lo -/
theorem Tb.Ok.fr_below (h : t.Ok) (h0 : t.first ≤ s) (hs : s < t.from_ lo tlo thi) : ¬ leF (ofI lo) (t.seeH tlo thi s) := by
  unfold Tb.from_ Tb.frN at hs
  have := okN_lt (fun i => !t.frB lo tlo thi i) t.cnt (s - t.first).toNat (by omega)
  simp only [Tb.frB, Bool.not_eq_true', decide_eq_false_iff_not] at this
  rw [show t.first + ((s - t.first).toNat : Int) = s by omega] at this
  rwa [ofI_le (h.seeH_d _ _ _)]
theorem Tb.Ok.fr_at (h : t.Ok) (hn : t.frN lo tlo thi < t.cnt) : leF (ofI lo) (t.seeH tlo thi (t.from_ lo tlo thi)) := by
  have := okN_bad (fun i => !t.frB lo tlo thi i) t.cnt hn
  simp only [Bool.not_eq_false'] at this
  rw [ofI_le (h.seeH_d _ _ _)]
  exact of_decide_eq_true this
theorem Tb.Ok.pa_below (h : t.Ok) (h0 : t.first ≤ s) (hs : s < t.past hi tlo thi) : leF (t.seeL tlo thi s) (ofI hi) := by
  unfold Tb.past Tb.paN at hs
  have := okN_lt (fun i => !t.paB hi tlo thi i) t.cnt (s - t.first).toNat (by omega)
  simp only [Tb.paB, Bool.not_eq_true', decide_eq_false_iff_not] at this
  rw [show t.first + ((s - t.first).toNat : Int) = s by omega] at this
  rw [le_ofI (h.seeL_d _ _ _)]; omega
theorem Tb.Ok.pa_at (h : t.Ok) (hn : t.paN hi tlo thi < t.cnt) : ¬ leF (t.seeL tlo thi (t.past hi tlo thi)) (ofI hi) := by
  have := okN_bad (fun i => !t.paB hi tlo thi i) t.cnt hn
  simp only [Bool.not_eq_false'] at this
  have h2 := of_decide_eq_true (show decide _ = true from this)
  rw [le_ofI (h.seeL_d _ _ _)]
  exact Int.not_le.2 h2
theorem Tb.frN_le : t.frN lo tlo thi ≤ t.cnt := okN_le _ _
theorem Tb.paN_le : t.paN hi tlo thi ≤ t.cnt := okN_le _ _
theorem Tb.noneB_f : t.noneB lo hi tlo thi = false ↔ t.frN lo tlo thi < t.cnt ∧ 0 < t.paN hi tlo thi := by unfold Tb.noneB; simp; omega
/-- what is within the results -/
theorem Tb.Ok.str_has (h : t.Ok) (ft : t.FitT tlo thi) (h0 : t.first ≤ s) (h1 : s ≤ t.last) (a : leF (ofI lo) (t.seeH tlo thi s)) (b : leF (t.seeL tlo thi s) (ofI hi)) :
    t.noneB lo hi tlo thi = false ∧ t.from_ lo tlo thi ≤ s ∧ s < t.past hi tlo thi := by
  have f1 : t.from_ lo tlo thi ≤ s := Int.not_lt.1 fun hc => h.fr_below h0 hc a
  have f2 : s < t.past hi tlo thi := by
    refine Int.not_le.1 fun hc => ?_
    have l : t.paN hi tlo thi < t.cnt := Tb.cnt_lt.2 (by unfold Tb.past at hc; omega)
    refine h.pa_at l (leF_trans (h.seeL_d _ _ _) (h.seeL_d _ _ _) (by show (1 : Int) ≤ 1; omega) (h.seeL_mono ft ?_ hc h1) b)
    unfold Tb.past; omega
  refine ⟨Tb.noneB_f.2 ⟨Tb.cnt_lt.2 (by unfold Tb.from_ at f1; omega), ?_⟩, f1, f2⟩
  unfold Tb.past at f2
  omega
theorem Tb.strLo_le : t.strLo lo tlo thi ≤ t.from_ lo tlo thi ∧ t.from_ lo tlo thi - 1 ≤ t.strLo lo tlo thi ∧ t.first ≤ t.strLo lo tlo thi := by
  unfold Tb.strLo
  have : t.first ≤ t.from_ lo tlo thi := by unfold Tb.from_; omega
  split <;> omega
theorem Tb.le_strHi : t.past hi tlo thi - 1 ≤ t.strHi hi tlo thi ∧ t.strHi hi tlo thi ≤ t.past hi tlo thi := by
  unfold Tb.strHi
  split <;> omega
theorem Tb.strHi_last (hn : t.noneB lo hi tlo thi = false) : t.strHi hi tlo thi ≤ t.last := by
  have l := Tb.paN_le (t := t) (hi := hi) (tlo := tlo) (thi := thi)
  obtain ⟨h1, h2⟩ := Tb.noneB_f.1 hn
  have l2 : t.past hi tlo thi - 1 ≤ t.last := by
    have := Tb.cnt_lt.1 (show t.paN hi tlo thi - 1 < t.cnt by omega)
    unfold Tb.past; omega
  unfold Tb.strHi
  split <;> omega
theorem Tb.Ok.fr_le_pa (h : t.Ok) (hlh : lo ≤ hi) (hn : t.noneB lo hi tlo thi = false) : t.from_ lo tlo thi ≤ t.past hi tlo thi ∧ (t.from_ lo tlo thi = t.past hi tlo thi → ¬ leF (t.seeH tlo thi (t.from_ lo tlo thi)) (ofI hi)) := by
  obtain ⟨h1, h2⟩ := Tb.noneB_f.1 hn
  have key : t.paN hi tlo thi < t.cnt → ¬ leF (t.seeH tlo thi (t.past hi tlo thi)) (ofI hi) := fun l hc =>
    h.pa_at l (leF_trans (h.seeL_d _ _ _) (h.seeH_d _ _ _) (by show (1 : Int) ≤ 1; omega) (h.see_le _ _ _) hc)
  have f : t.from_ lo tlo thi ≤ t.past hi tlo thi := by
    refine Int.not_lt.1 fun hc => ?_
    have l : t.paN hi tlo thi < t.cnt := by unfold Tb.from_ Tb.past at hc; omega
    have k := key l
    have nb := h.fr_below (s := t.past hi tlo thi) (lo := lo) (tlo := tlo) (thi := thi) (by unfold Tb.past; omega) hc
    have := (leF_total (ofI hi) (t.seeH tlo thi (t.past hi tlo thi))).resolve_right k
    exact nb (leF_trans (by show (1 : Int) ≤ 1; omega) (by show (1 : Int) ≤ 1; omega) (h.seeH_d _ _ _) (ofI_le_ofI.2 hlh) this)
  refine ⟨f, fun e => ?_⟩
  rw [e]
  exact key (by unfold Tb.from_ Tb.past at e; omega)
theorem eq_ofI {c : Int} {v : Fr} : v.n = c * v.d ↔ eqF (ofI c) v := by unfold eqF ofI; simp only [Int.mul_one]; exact eq_comm
theorem Tb.Ok.strLo_le_strHi (h : t.Ok) (hlh : lo ≤ hi) (hn : t.noneB lo hi tlo thi = false) : t.strLo lo tlo thi ≤ t.strHi hi tlo thi := by
  obtain ⟨f, k⟩ := h.fr_le_pa hlh hn
  have l1 := Tb.strLo_le (t := t) (lo := lo) (tlo := tlo) (thi := thi)
  have l2 := Tb.le_strHi (t := t) (hi := hi) (tlo := tlo) (thi := thi)
  rcases Int.lt_or_eq_of_le f with h1 | h1
  · omega
  · have k' := k h1
    have : t.strLo lo tlo thi = t.from_ lo tlo thi - 1 := by
      unfold Tb.strLo
      refine if_pos ⟨?_, fun e => k' ?_⟩
      · have := (Tb.noneB_f.1 hn).2
        rw [h1]; unfold Tb.past; omega
      · have e2 := eqF_le (eq_ofI.1 e)
        exact leF_trans (h.seeH_d _ _ _) (by show (1 : Int) ≤ 1; omega) (by show (1 : Int) ≤ 1; omega) e2.2 (ofI_le_ofI.2 hlh)
    omega
end
end Go.Proofs.YtjgnafhbeekebaaGreat.L1

namespace Go.Proofs.YtjgnafhbeekebaaGreat.L1
open Go.Proofs.YtjgnafhbeekebaaGreat

section
variable {t : Tb} {lo hi tlo thi lo' hi' tlo' thi' s : Int}
end
/-- an amount at 20 degrees, as a fraction -/
def volF (a : Int) (v : Fr) : Fr := ⟨a * 1000000 * v.d, v.n⟩
theorem volF_room {a : Int} {u v : Fr} (ha : 0 ≤ a) (h : leF u v) : leF (volF a v) (volF a u) := by
  unfold leF volF at *
  simp only
  have := Int.mul_le_mul_of_nonneg_left h (show 0 ≤ a * 1000000 by omega)
  have e1 : a * 1000000 * v.d * u.n = a * 1000000 * (u.n * v.d) := by grind
  have e2 : a * 1000000 * u.d * v.n = a * 1000000 * (v.n * u.d) := by grind
  omega
theorem volF_mono {a b : Int} {v : Fr} (hab : a ≤ b) (hd : 1 ≤ v.d) (hn : 1 ≤ v.n) : leF (volF a v) (volF b v) := by
  unfold leF volF
  simp only
  exact Int.mul_le_mul_of_nonneg_right (Int.mul_le_mul_of_nonneg_right (by omega) (by omega)) (by omega)
theorem pos_of_le {c : Int} {v : Fr} (hc : 1 ≤ c) (hd : 1 ≤ v.d) (h : leF (ofI c) v) : 1 ≤ v.n := by
  unfold leF ofI at h
  simp only [Int.mul_one] at h
  have := Int.mul_le_mul hc hd (by omega) (by omega)
  omega
section
variable {t : Tb} {slo shi tlo thi : Int}
theorem Tb.Ok.rv_range (h : t.Ok) {x y : Int} (x0 : t.T 0 ≤ x) (x1 : x ≤ t.T (t.nT - 1)) (y0 : t.S 0 ≤ y) (y1 : y ≤ t.S (t.nS - 1)) : leF (ofI 900000) (t.rv x y) ∧ leF (t.rv x y) (ofI 1100000) :=
  val_range (M := t.R) h.rT h.rS h.t2 h.s2 x0 x1 y0 y1 h.bR
theorem Tb.Ok.lowV_range (h : t.Ok) (ft : t.FitT tlo thi) (fs : t.FitS slo shi) : leF (ofI 900000) (t.lowV slo shi tlo thi) ∧ leF (t.lowV slo shi tlo thi) (ofI 1100000) ∧ 1 ≤ (t.lowV slo shi tlo thi).d ∧ 1 ≤ (t.lowV slo shi tlo thi).n := by
  obtain ⟨x, y, hx, hy, e⟩ := (h.lowV_is slo shi tlo thi).at_
  have hx' := mark_in ft.b hx
  have hy' := mark_in fs.b hy
  have fa := ft.a
  have fc := ft.c
  have ga := fs.a
  have gc := fs.c
  obtain ⟨r1, r2⟩ := h.rv_range (x := x) (y := y) (by omega) (by omega) (by omega) (by omega)
  have d := h.rd x y
  unfold Tb.rv at r1 r2 d
  rw [← e] at r1 r2 d
  exact ⟨r1, r2, d, pos_of_le (by omega) d r1⟩
theorem Tb.Ok.highV_range (h : t.Ok) (ft : t.FitT tlo thi) (fs : t.FitS slo shi) : leF (ofI 900000) (t.highV slo shi tlo thi) ∧ leF (t.highV slo shi tlo thi) (ofI 1100000) ∧ 1 ≤ (t.highV slo shi tlo thi).d ∧ 1 ≤ (t.highV slo shi tlo thi).n := by
  obtain ⟨x, y, hx, hy, e⟩ := (h.highV_is slo shi tlo thi).at_
  have hx' := mark_in ft.b hx
  have hy' := mark_in fs.b hy
  have fa := ft.a
  have fc := ft.c
  have ga := fs.a
  have gc := fs.c
  obtain ⟨r1, r2⟩ := h.rv_range (x := x) (y := y) (by omega) (by omega) (by omega) (by omega)
  have d := h.rd x y
  unfold Tb.rv at r1 r2 d
  rw [← e] at r1 r2 d
  exact ⟨r1, r2, d, pos_of_le (by omega) d r1⟩
end
/-- the volumes -/
def Tb.volLo (t : Tb) (a slo shi tlo thi : Int) : Int := (volF a (t.highV slo shi tlo thi)).flr
def Tb.volHi (t : Tb) (a slo shi tlo thi : Int) : Int := (volF a (t.lowV slo shi tlo thi)).cei
section
variable {t : Tb} {a b a' b' slo shi tlo thi slo' shi' tlo' thi' : Int}
theorem Tb.Ok.vol_le (h : t.Ok) (ft : t.FitT tlo thi) (fs : t.FitS slo shi) (a0 : 0 ≤ a) (ab : a ≤ b) : t.volLo a slo shi tlo thi ≤ t.volHi b slo shi tlo thi := by
  obtain ⟨_, _, d1, n1⟩ := h.highV_range ft fs
  obtain ⟨_, _, d3, n3⟩ := h.lowV_range ft fs
  have e : leF (t.lowV slo shi tlo thi) (t.highV slo shi tlo thi) := by
    have m1 := (h.lowV_is slo shi tlo thi).le tlo slo (.inl rfl) (.inl rfl)
    have m2 := (h.highV_is slo shi tlo thi).le tlo slo (.inl rfl) (.inl rfl)
    exact leF_trans d3 (h.rd tlo slo) d1 m1 m2
  have l := flr_mono n1 n3 (leF_trans n1 n3 n3 (volF_room a0 e) (volF_mono ab d3 n3))
  exact Int.le_trans l (flr_le_cei n3)
end
end Go.Proofs.YtjgnafhbeekebaaGreat.L1
