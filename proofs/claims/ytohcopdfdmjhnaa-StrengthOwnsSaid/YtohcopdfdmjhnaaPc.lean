/- Plain laws of a table: what is seen of a strength rises; the strengths that show something; both ends are tight. No conditions beyond each theorem's own. -/
import Derived.Test.YtohcopdfdmjhnaaPb
set_option linter.unusedVariables false
set_option linter.unusedSimpArgs false
set_option linter.unusedSectionVars false
set_option linter.constructorNameAsVariable false
namespace Go.Proofs.Ytohcopdfdmjhnaa.L1
open Go.Proofs.Ytohcopdfdmjhnaa

section
variable {T S : Nat → Int} {nT nS : Nat} {M : Nat → Nat → Int}
theorem cell_corner00 {i k : Nat} : cellN T S M i k (T i) (S k) = ((T (i + 1) - T i) * (S (k + 1) - S k)) * M i k := by unfold cellN; grind
theorem cell_corner01 {i k : Nat} : cellN T S M i k (T i) (S (k + 1)) = ((T (i + 1) - T i) * (S (k + 1) - S k)) * M i (k + 1) := by unfold cellN; grind
theorem cell_corner10 {i k : Nat} : cellN T S M i k (T (i + 1)) (S k) = ((T (i + 1) - T i) * (S (k + 1) - S k)) * M (i + 1) k := by unfold cellN; grind
theorem cell_corner11 {i k : Nat} : cellN T S M i k (T (i + 1)) (S (k + 1)) = ((T (i + 1) - T i) * (S (k + 1) - S k)) * M (i + 1) (k + 1) := by unfold cellN; grind
theorem cell_range {i k : Nat} {x y c1 c2 : Int} (hd : 1 ≤ (T (i + 1) - T i) * (S (k + 1) - S k)) (x0 : T i ≤ x) (x1 : x ≤ T (i + 1)) (y0 : S k ≤ y) (y1 : y ≤ S (k + 1))
    (h : ∀ a b, (a = i ∨ a = i + 1) → (b = k ∨ b = k + 1) → c1 ≤ M a b ∧ M a b ≤ c2) : leF (ofI c1) (cellF T S M i k x y) ∧ leF (cellF T S M i k x y) (ofI c2) := by
  obtain ⟨D, hD⟩ : ∃ D, (T (i + 1) - T i) * (S (k + 1) - S k) = D := ⟨_, rfl⟩
  have lo : ∀ a b, (a = i ∨ a = i + 1) → (b = k ∨ b = k + 1) → c1 * D ≤ D * M a b := fun a b ha hb => by
    rw [Int.mul_comm]; exact Int.mul_le_mul_of_nonneg_left (h a b ha hb).1 (by omega)
  have hi : ∀ a b, (a = i ∨ a = i + 1) → (b = k ∨ b = k + 1) → D * M a b ≤ c2 * D := fun a b ha hb => by
    rw [Int.mul_comm c2]; exact Int.mul_le_mul_of_nonneg_left (h a b ha hb).2 (by omega)
  have k1 := cell_between (T := T) (S := S) (M := M) (i := i) (k := k) (s := 1) (c := -(c1 * D)) x0 x1 y0 y1
    (by rw [cell_corner00, hD]; have := lo i k (.inl rfl) (.inl rfl); omega) (by rw [cell_corner01, hD]; have := lo i (k + 1) (.inl rfl) (.inr rfl); omega)
    (by rw [cell_corner10, hD]; have := lo (i + 1) k (.inr rfl) (.inl rfl); omega) (by rw [cell_corner11, hD]; have := lo (i + 1) (k + 1) (.inr rfl) (.inr rfl); omega)
  have k2 := cell_between (T := T) (S := S) (M := M) (i := i) (k := k) (s := -1) (c := c2 * D) x0 x1 y0 y1
    (by rw [cell_corner00, hD]; have := hi i k (.inl rfl) (.inl rfl); omega) (by rw [cell_corner01, hD]; have := hi i (k + 1) (.inl rfl) (.inr rfl); omega)
    (by rw [cell_corner10, hD]; have := hi (i + 1) k (.inr rfl) (.inl rfl); omega) (by rw [cell_corner11, hD]; have := hi (i + 1) (k + 1) (.inr rfl) (.inr rfl); omega)
  unfold leF ofI cellF
  simp only
  rw [hD]
  omega
theorem val_range {x y c1 c2 : Int} (hT : Rises T nT) (hS : Rises S nS) (h1 : 2 ≤ nT) (h2 : 2 ≤ nS) (x0 : T 0 ≤ x) (x1 : x ≤ T (nT - 1)) (y0 : S 0 ≤ y) (y1 : y ≤ S (nS - 1))
    (h : ∀ a b, a < nT → b < nS → c1 ≤ M a b ∧ M a b ≤ c2) : leF (ofI c1) (valF T S nT nS M x y) ∧ leF (valF T S nT nS M x y) (ofI c2) := by
  obtain ⟨a0, a1⟩ := plV_in h1 x0 x1
  obtain ⟨b0, b1⟩ := plV_in h2 y0 y1
  have la := plV_le T nT x
  have lk := plV_le S nS y
  exact cell_range (cellF_d (M := M) hT hS (i := plV T nT x) (k := plV S nS y) (by omega) (by omega) x y) a0 a1 b0 b1 (fun a b ha hb => h a b (by omega) (by omega))
end
/-- a table -/
structure Tb where
  nT : Nat
  nS : Nat
  T : Nat → Int
  S : Nat → Int
  H : Nat → Nat → Int
  R : Nat → Nat → Int
namespace Tb
def first (t : Tb) : Int := t.S 0
def last (t : Tb) : Int := t.S (t.nS - 1)
structure Ok (t : Tb) : Prop where
  t2 : 2 ≤ t.nT
  t32 : t.nT ≤ 32
  s2 : 2 ≤ t.nS
  s32 : t.nS ≤ 32
  rT : Rises t.T t.nT
  rS : Rises t.S t.nS
  bT : ∀ i, i < t.nT → -500 ≤ t.T i ∧ t.T i ≤ 1000
  bS : ∀ k, k < t.nS → 0 ≤ t.S k ∧ t.S k ≤ 10000
  rH : ∀ i, i < t.nT → Rises (t.H i) t.nS
  bH : ∀ i k, i < t.nT → k < t.nS → -10000 ≤ t.H i k ∧ t.H i k ≤ 20000
  bR : ∀ i k, i < t.nT → k < t.nS → 900000 ≤ t.R i k ∧ t.R i k ≤ 1100000
/-- a span of temperatures, of strengths fits -/
structure FitT (t : Tb) (lo hi : Int) : Prop where
  a : t.T 0 ≤ lo
  b : lo ≤ hi
  c : hi ≤ t.T (t.nT - 1)
structure FitS (t : Tb) (lo hi : Int) : Prop where
  a : t.S 0 ≤ lo
  b : lo ≤ hi
  c : hi ≤ t.S (t.nS - 1)
variable (t : Tb)
def hv (x y : Int) : Fr := valF t.T t.S t.nT t.nS t.H x y
def rv (x y : Int) : Fr := valF t.T t.S t.nT t.nS t.R x y
def lowH (slo shi tlo thi : Int) : Fr := lowP t.T t.S t.nT t.nS t.H tlo thi slo shi
def highH (slo shi tlo thi : Int) : Fr := highP t.T t.S t.nT t.nS t.H tlo thi slo shi
def lowV (slo shi tlo thi : Int) : Fr := lowP t.T t.S t.nT t.nS t.R tlo thi slo shi
def highV (slo shi tlo thi : Int) : Fr := highP t.T t.S t.nT t.nS t.R tlo thi slo shi
def seeL (tlo thi s : Int) : Fr := t.lowH s s tlo thi
def seeH (tlo thi s : Int) : Fr := t.highH s s tlo thi
def cnt : Nat := (t.last - t.first + 1).toNat
def frB (lo tlo thi : Int) (i : Nat) : Bool := decide (lo ≤ (t.seeH tlo thi (t.first + i)).flr)
def paB (hi tlo thi : Int) (i : Nat) : Bool := decide (hi < (t.seeL tlo thi (t.first + i)).cei)
/-- the first strength whose greatest number reaches lo, the first one whose least number passes hi -/
def frN (lo tlo thi : Int) : Nat := okN (fun i => !t.frB lo tlo thi i) t.cnt
def paN (hi tlo thi : Int) : Nat := okN (fun i => !t.paB hi tlo thi i) t.cnt
def noneB (lo hi tlo thi : Int) : Bool := decide (t.cnt ≤ t.frN lo tlo thi) || decide (t.paN hi tlo thi = 0)
def from_ (lo tlo thi : Int) : Int := t.first + t.frN lo tlo thi
def past (hi tlo thi : Int) : Int := t.first + t.paN hi tlo thi
/-- the results -/
def strLo (lo tlo thi : Int) : Int := if t.first < t.from_ lo tlo thi ∧ ¬ (t.seeH tlo thi (t.from_ lo tlo thi)).n = lo * (t.seeH tlo thi (t.from_ lo tlo thi)).d then t.from_ lo tlo thi - 1 else t.from_ lo tlo thi
def strHi (hi tlo thi : Int) : Int := if t.past hi tlo thi - 1 < t.last ∧ ¬ (t.seeL tlo thi (t.past hi tlo thi - 1)).n = hi * (t.seeL tlo thi (t.past hi tlo thi - 1)).d then t.past hi tlo thi else t.past hi tlo thi - 1
end Tb
section
variable {t : Tb} {lo hi tlo thi s s' : Int}
theorem Tb.Ok.hd (h : t.Ok) (x y : Int) : 1 ≤ (t.hv x y).d := valF_d h.rT h.rS h.t2 h.s2 x y
theorem Tb.Ok.rd (h : t.Ok) (x y : Int) : 1 ≤ (t.rv x y).d := valF_d h.rT h.rS h.t2 h.s2 x y
theorem Tb.Ok.len (h : t.Ok) : t.first < t.last := h.rS.lt 0 (t.nS - 1) (by have := h.s2; omega) (by have := h.s2; omega)
theorem mark_one {L : Nat → Int} {n : Nat} {a x : Int} (h : IsMark L n a a x) : x = a := by rcases h with h | h | ⟨h1, h2, _⟩ <;> omega
theorem mark_in {L : Nat → Int} {n : Nat} {a b x : Int} (hab : a ≤ b) (h : IsMark L n a b x) : a ≤ x ∧ x ≤ b := by rcases h with h | h | ⟨h1, h2, _⟩ <;> omega
theorem Tb.Ok.lowH_is (h : t.Ok) (slo shi tlo thi : Int) : IsLow t.T t.S t.nT t.nS t.H tlo thi slo shi (t.lowH slo shi tlo thi) := lowP_is h.rT h.rS h.t2 h.s2
theorem Tb.Ok.highH_is (h : t.Ok) (slo shi tlo thi : Int) : IsHigh t.T t.S t.nT t.nS t.H tlo thi slo shi (t.highH slo shi tlo thi) := highP_is h.rT h.rS h.t2 h.s2
theorem Tb.Ok.lowV_is (h : t.Ok) (slo shi tlo thi : Int) : IsLow t.T t.S t.nT t.nS t.R tlo thi slo shi (t.lowV slo shi tlo thi) := lowP_is h.rT h.rS h.t2 h.s2
theorem Tb.Ok.highV_is (h : t.Ok) (slo shi tlo thi : Int) : IsHigh t.T t.S t.nT t.nS t.R tlo thi slo shi (t.highV slo shi tlo thi) := highP_is h.rT h.rS h.t2 h.s2
theorem IsLow.d {T S : Nat → Int} {nT nS : Nat} {M : Nat → Nat → Int} {tlo thi slo shi : Int} {v : Fr} (a : IsLow T S nT nS M tlo thi slo shi v) (hT : Rises T nT) (hS : Rises S nS) (h1 : 2 ≤ nT) (h2 : 2 ≤ nS) : 1 ≤ v.d := by
  obtain ⟨x, y, _, _, e⟩ := a.at_; rw [e]; exact valF_d hT hS h1 h2 _ _
theorem IsHigh.d {T S : Nat → Int} {nT nS : Nat} {M : Nat → Nat → Int} {tlo thi slo shi : Int} {v : Fr} (a : IsHigh T S nT nS M tlo thi slo shi v) (hT : Rises T nT) (hS : Rises S nS) (h1 : 2 ≤ nT) (h2 : 2 ≤ nS) : 1 ≤ v.d := by
  obtain ⟨x, y, _, _, e⟩ := a.at_; rw [e]; exact valF_d hT hS h1 h2 _ _
theorem Tb.Ok.seeL_d (h : t.Ok) (tlo thi s : Int) : 1 ≤ (t.seeL tlo thi s).d := (h.lowH_is s s tlo thi).d h.rT h.rS h.t2 h.s2
theorem Tb.Ok.seeH_d (h : t.Ok) (tlo thi s : Int) : 1 ≤ (t.seeH tlo thi s).d := (h.highH_is s s tlo thi).d h.rT h.rS h.t2 h.s2
theorem Tb.Ok.seeL_mono (h : t.Ok) (ft : t.FitT tlo thi) (h0 : t.first ≤ s) (hs : s ≤ s') (h1 : s' ≤ t.last) : leF (t.seeL tlo thi s) (t.seeL tlo thi s') := by
  obtain ⟨x, y, hx, hy, e⟩ := (h.lowH_is s' s' tlo thi).at_
  have hy' := mark_one hy
  have hx' := mark_in ft.b hx
  have a := (h.lowH_is s s tlo thi).le x s hx (.inl rfl)
  have fa := ft.a
  have fc := ft.c
  have m := val_mono' (M := t.H) h.rT h.rS h.t2 h.s2 h.rH (x := x) (y := s) (y' := s') (by omega) (by omega) h0 hs h1
  have e2 : t.seeL tlo thi s' = valF t.T t.S t.nT t.nS t.H x s' := by rw [hy'] at e; exact e
  rw [e2]
  exact leF_trans (h.seeL_d _ _ _) (h.hd _ _) (h.hd _ _) a m
theorem Tb.Ok.seeH_mono (h : t.Ok) (ft : t.FitT tlo thi) (h0 : t.first ≤ s) (hs : s ≤ s') (h1 : s' ≤ t.last) : leF (t.seeH tlo thi s) (t.seeH tlo thi s') := by
  obtain ⟨x, y, hx, hy, e⟩ := (h.highH_is s s tlo thi).at_
  have hy' := mark_one hy
  have hx' := mark_in ft.b hx
  have a := (h.highH_is s' s' tlo thi).le x s' hx (.inl rfl)
  have fa := ft.a
  have fc := ft.c
  have m := val_mono' (M := t.H) h.rT h.rS h.t2 h.s2 h.rH (x := x) (y := s) (y' := s') (by omega) (by omega) h0 hs h1
  have e2 : t.seeH tlo thi s = valF t.T t.S t.nT t.nS t.H x s := by rw [hy'] at e; exact e
  rw [e2]
  exact leF_trans (h.hd _ _) (h.hd _ _) (h.seeH_d _ _ _) m a
theorem Tb.Ok.see_le (h : t.Ok) (tlo thi s : Int) : leF (t.seeL tlo thi s) (t.seeH tlo thi s) :=
  leF_trans (h.seeL_d _ _ _) (h.hd tlo s) (h.seeH_d _ _ _) ((h.lowH_is s s tlo thi).le tlo s (.inl rfl) (.inl rfl)) ((h.highH_is s s tlo thi).le tlo s (.inl rfl) (.inl rfl))
/-- what is shown is from -10000 to 20000 -/
theorem Tb.Ok.seeL_range (h : t.Ok) (ft : t.FitT tlo thi) (h0 : t.first ≤ s) (h1 : s ≤ t.last) : leF (ofI (-10000)) (t.seeL tlo thi s) ∧ leF (t.seeL tlo thi s) (ofI 20000) := by
  obtain ⟨x, y, hx, hy, e⟩ := (h.lowH_is s s tlo thi).at_
  have hy' := mark_one hy
  have hx' := mark_in ft.b hx
  have fa := ft.a
  have fc := ft.c
  have := val_range (M := t.H) (x := x) (y := y) h.rT h.rS h.t2 h.s2 (by omega) (by omega) (by rw [hy']; exact h0) (by rw [hy']; exact h1) h.bH
  rw [← e] at this
  exact this
theorem Tb.Ok.seeH_range (h : t.Ok) (ft : t.FitT tlo thi) (h0 : t.first ≤ s) (h1 : s ≤ t.last) : leF (ofI (-10000)) (t.seeH tlo thi s) ∧ leF (t.seeH tlo thi s) (ofI 20000) := by
  obtain ⟨x, y, hx, hy, e⟩ := (h.highH_is s s tlo thi).at_
  have hy' := mark_one hy
  have hx' := mark_in ft.b hx
  have fa := ft.a
  have fc := ft.c
  have := val_range (M := t.H) (x := x) (y := y) h.rT h.rS h.t2 h.s2 (by omega) (by omega) (by rw [hy']; exact h0) (by rw [hy']; exact h1) h.bH
  rw [← e] at this
  exact this
theorem Tb.cnt_lt {i : Nat} : i < t.cnt ↔ t.first + i ≤ t.last := by unfold Tb.cnt; omega
theorem ofI_le_ofI {a b : Int} : leF (ofI a) (ofI b) ↔ a ≤ b := by unfold leF ofI; simp
/-- P at s: the greatest number reaches lo -/
theorem Tb.Ok.fr_below (h : t.Ok) (h0 : t.first ≤ s) (hs : s < t.from_ lo tlo thi) : ¬ leF (ofI lo) (t.seeH tlo thi s) := by
  unfold Tb.from_ Tb.frN at hs
  have := okN_lt (fun i => !t.frB lo tlo thi i) t.cnt (s - t.first).toNat (by omega)
  simp only [Tb.frB, Bool.not_eq_true', decide_eq_false_iff_not] at this
  rw [show t.first + ((s - t.first).toNat : Int) = s by omega] at this
  rwa [ofI_le (h.seeH_d _ _ _)]
theorem Tb.Ok.fr_at (h : t.Ok) (hn : t.frN lo tlo thi < t.cnt) : leF (ofI lo) (t.seeH tlo thi (t.from_ lo tlo thi)) := by
  have := okN_bad (fun i => !t.frB lo tlo thi i) t.cnt hn
  simp only [Bool.not_eq_false'] at this
  rw [ofI_le (h.seeH_d _ _ _)]
  exact of_decide_eq_true this
theorem Tb.Ok.pa_below (h : t.Ok) (h0 : t.first ≤ s) (hs : s < t.past hi tlo thi) : leF (t.seeL tlo thi s) (ofI hi) := by
  unfold Tb.past Tb.paN at hs
  have := okN_lt (fun i => !t.paB hi tlo thi i) t.cnt (s - t.first).toNat (by omega)
  simp only [Tb.paB, Bool.not_eq_true', decide_eq_false_iff_not] at this
  rw [show t.first + ((s - t.first).toNat : Int) = s by omega] at this
  rw [le_ofI (h.seeL_d _ _ _)]; omega
theorem Tb.Ok.pa_at (h : t.Ok) (hn : t.paN hi tlo thi < t.cnt) : ¬ leF (t.seeL tlo thi (t.past hi tlo thi)) (ofI hi) := by
  have := okN_bad (fun i => !t.paB hi tlo thi i) t.cnt hn
  simp only [Bool.not_eq_false'] at this
  have h2 := of_decide_eq_true (show decide _ = true from this)
  rw [le_ofI (h.seeL_d _ _ _)]
  exact Int.not_le.2 h2
theorem Tb.frN_le : t.frN lo tlo thi ≤ t.cnt := okN_le _ _
theorem Tb.paN_le : t.paN hi tlo thi ≤ t.cnt := okN_le _ _
theorem Tb.noneB_f : t.noneB lo hi tlo thi = false ↔ t.frN lo tlo thi < t.cnt ∧ 0 < t.paN hi tlo thi := by unfold Tb.noneB; simp; omega
theorem Tb.noneB_t : t.noneB lo hi tlo thi = true ↔ t.cnt ≤ t.frN lo tlo thi ∨ t.paN hi tlo thi = 0 := by unfold Tb.noneB; simp
/-- what is within the results -/
theorem Tb.Ok.str_has (h : t.Ok) (ft : t.FitT tlo thi) (h0 : t.first ≤ s) (h1 : s ≤ t.last) (a : leF (ofI lo) (t.seeH tlo thi s)) (b : leF (t.seeL tlo thi s) (ofI hi)) :
    t.noneB lo hi tlo thi = false ∧ t.from_ lo tlo thi ≤ s ∧ s < t.past hi tlo thi := by
  have f1 : t.from_ lo tlo thi ≤ s := Int.not_lt.1 fun hc => h.fr_below h0 hc a
  have f2 : s < t.past hi tlo thi := by
    refine Int.not_le.1 fun hc => ?_
    have l : t.paN hi tlo thi < t.cnt := Tb.cnt_lt.2 (by unfold Tb.past at hc; omega)
    refine h.pa_at l (leF_trans (h.seeL_d _ _ _) (h.seeL_d _ _ _) (by show (1 : Int) ≤ 1; omega) (h.seeL_mono ft ?_ hc h1) b)
    unfold Tb.past; omega
  refine ⟨Tb.noneB_f.2 ⟨Tb.cnt_lt.2 (by unfold Tb.from_ at f1; omega), ?_⟩, f1, f2⟩
  unfold Tb.past at f2
  omega
theorem Tb.strLo_le : t.strLo lo tlo thi ≤ t.from_ lo tlo thi ∧ t.from_ lo tlo thi - 1 ≤ t.strLo lo tlo thi ∧ t.first ≤ t.strLo lo tlo thi := by
  unfold Tb.strLo
  have : t.first ≤ t.from_ lo tlo thi := by unfold Tb.from_; omega
  split <;> omega
theorem Tb.le_strHi : t.past hi tlo thi - 1 ≤ t.strHi hi tlo thi ∧ t.strHi hi tlo thi ≤ t.past hi tlo thi := by
  unfold Tb.strHi
  split <;> omega
theorem Tb.strHi_last (hn : t.noneB lo hi tlo thi = false) : t.strHi hi tlo thi ≤ t.last := by
  have l := Tb.paN_le (t := t) (hi := hi) (tlo := tlo) (thi := thi)
  obtain ⟨h1, h2⟩ := Tb.noneB_f.1 hn
  have l2 : t.past hi tlo thi - 1 ≤ t.last := by
    have := Tb.cnt_lt.1 (show t.paN hi tlo thi - 1 < t.cnt by omega)
    unfold Tb.past; omega
  unfold Tb.strHi
  split <;> omega
theorem Tb.Ok.fr_le_pa (h : t.Ok) (hlh : lo ≤ hi) (hn : t.noneB lo hi tlo thi = false) : t.from_ lo tlo thi ≤ t.past hi tlo thi ∧ (t.from_ lo tlo thi = t.past hi tlo thi → ¬ leF (t.seeH tlo thi (t.from_ lo tlo thi)) (ofI hi)) := by
  obtain ⟨h1, h2⟩ := Tb.noneB_f.1 hn
  have key : t.paN hi tlo thi < t.cnt → ¬ leF (t.seeH tlo thi (t.past hi tlo thi)) (ofI hi) := fun l hc =>
    h.pa_at l (leF_trans (h.seeL_d _ _ _) (h.seeH_d _ _ _) (by show (1 : Int) ≤ 1; omega) (h.see_le _ _ _) hc)
  have f : t.from_ lo tlo thi ≤ t.past hi tlo thi := by
    refine Int.not_lt.1 fun hc => ?_
    have l : t.paN hi tlo thi < t.cnt := by unfold Tb.from_ Tb.past at hc; omega
    have k := key l
    have nb := h.fr_below (s := t.past hi tlo thi) (lo := lo) (tlo := tlo) (thi := thi) (by unfold Tb.past; omega) hc
    have := (leF_total (ofI hi) (t.seeH tlo thi (t.past hi tlo thi))).resolve_right k
    exact nb (leF_trans (by show (1 : Int) ≤ 1; omega) (by show (1 : Int) ≤ 1; omega) (h.seeH_d _ _ _) (ofI_le_ofI.2 hlh) this)
  refine ⟨f, fun e => ?_⟩
  rw [e]
  exact key (by unfold Tb.from_ Tb.past at e; omega)
theorem eq_ofI {c : Int} {v : Fr} : v.n = c * v.d ↔ eqF (ofI c) v := by unfold eqF ofI; simp only [Int.mul_one]; exact eq_comm
theorem Tb.Ok.strLo_le_strHi (h : t.Ok) (hlh : lo ≤ hi) (hn : t.noneB lo hi tlo thi = false) : t.strLo lo tlo thi ≤ t.strHi hi tlo thi := by
  obtain ⟨f, k⟩ := h.fr_le_pa hlh hn
  have l1 := Tb.strLo_le (t := t) (lo := lo) (tlo := tlo) (thi := thi)
  have l2 := Tb.le_strHi (t := t) (hi := hi) (tlo := tlo) (thi := thi)
  rcases Int.lt_or_eq_of_le f with h1 | h1
  · omega
  · have k' := k h1
    have : t.strLo lo tlo thi = t.from_ lo tlo thi - 1 := by
      unfold Tb.strLo
      refine if_pos ⟨?_, fun e => k' ?_⟩
      · have := (Tb.noneB_f.1 hn).2
        rw [h1]; unfold Tb.past; omega
      · have e2 := eqF_le (eq_ofI.1 e)
        exact leF_trans (h.seeH_d _ _ _) (by show (1 : Int) ≤ 1; omega) (by show (1 : Int) ≤ 1; omega) e2.2 (ofI_le_ofI.2 hlh)
    omega
/-- the lower end: tight -/
theorem Tb.Ok.str_tightLo (h : t.Ok) (hn : t.noneB lo hi tlo thi = false) :
    (t.first < t.strLo lo tlo thi → leF (t.seeH tlo thi (t.strLo lo tlo thi)) (ofI lo)) ∧
    (¬ leF (ofI lo) (t.seeH tlo thi (t.strLo lo tlo thi)) → t.strLo lo tlo thi + 1 ≤ t.last ∧ ¬ leF (t.seeH tlo thi (t.strLo lo tlo thi + 1)) (ofI lo)) := by
  obtain ⟨h1, h2⟩ := Tb.noneB_f.1 hn
  have fa := h.fr_at h1
  have fl : t.from_ lo tlo thi ≤ t.last := by unfold Tb.from_; exact Tb.cnt_lt.1 h1
  have lt := fun (s : Int) (h0 : t.first ≤ s) (hs : s < t.from_ lo tlo thi) => h.fr_below h0 hs
  by_cases hc : t.first < t.from_ lo tlo thi ∧ ¬ (t.seeH tlo thi (t.from_ lo tlo thi)).n = lo * (t.seeH tlo thi (t.from_ lo tlo thi)).d
  · have e : t.strLo lo tlo thi = t.from_ lo tlo thi - 1 := if_pos hc
    rw [e]
    have nb := lt (t.from_ lo tlo thi - 1) (by omega) (by omega)
    refine ⟨fun _ => (leF_total _ _).resolve_right nb, fun _ => ⟨by omega, fun hle => hc.2 (eq_ofI.2 ?_)⟩⟩
    rw [show t.from_ lo tlo thi - 1 + 1 = t.from_ lo tlo thi by omega] at hle
    exact le_eqF fa hle
  · have e : t.strLo lo tlo thi = t.from_ lo tlo thi := if_neg hc
    rw [e]
    refine ⟨fun hf => ?_, fun hh => absurd fa hh⟩
    have := Decidable.not_not.1 (fun hh => hc ⟨hf, hh⟩)
    exact (eqF_le (eq_ofI.1 this)).2
theorem Tb.Ok.str_tightHi (h : t.Ok) (hn : t.noneB lo hi tlo thi = false) :
    (t.strHi hi tlo thi < t.last → leF (ofI hi) (t.seeL tlo thi (t.strHi hi tlo thi))) ∧
    (¬ leF (t.seeL tlo thi (t.strHi hi tlo thi)) (ofI hi) → t.first ≤ t.strHi hi tlo thi - 1 ∧ ¬ leF (ofI hi) (t.seeL tlo thi (t.strHi hi tlo thi - 1))) := by
  obtain ⟨h1, h2⟩ := Tb.noneB_f.1 hn
  have pl : t.past hi tlo thi - 1 ≤ t.last := by
    have := Tb.cnt_lt.1 (show t.paN hi tlo thi - 1 < t.cnt by have := Tb.paN_le (t := t) (hi := hi) (tlo := tlo) (thi := thi); omega)
    unfold Tb.past; omega
  have p0 : t.first ≤ t.past hi tlo thi - 1 := by unfold Tb.past; omega
  have pb := h.pa_below (s := t.past hi tlo thi - 1) (hi := hi) (tlo := tlo) (thi := thi) p0 (by omega)
  by_cases hc : t.past hi tlo thi - 1 < t.last ∧ ¬ (t.seeL tlo thi (t.past hi tlo thi - 1)).n = hi * (t.seeL tlo thi (t.past hi tlo thi - 1)).d
  · have e : t.strHi hi tlo thi = t.past hi tlo thi := if_pos hc
    rw [e]
    have na := h.pa_at (hi := hi) (tlo := tlo) (thi := thi) (Tb.cnt_lt.2 (by have := hc.1; unfold Tb.past at this; omega))
    refine ⟨fun _ => (leF_total _ _).resolve_right na, fun _ => ⟨p0, fun hle => hc.2 (eq_ofI.2 (le_eqF hle pb))⟩⟩
  · have e : t.strHi hi tlo thi = t.past hi tlo thi - 1 := if_neg hc
    rw [e]
    refine ⟨fun hf => ?_, fun hh => absurd pb hh⟩
    have := Decidable.not_not.1 (fun hh => hc ⟨hf, hh⟩)
    exact (eqF_le (eq_ofI.1 this)).1
end
end Go.Proofs.Ytohcopdfdmjhnaa.L1
