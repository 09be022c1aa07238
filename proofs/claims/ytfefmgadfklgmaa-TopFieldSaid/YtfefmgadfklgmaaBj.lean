/- An hour of a vat; contract of hour. No conditions beyond each theorem's own. -/
import Derived.Test.YtfefmgadfklgmaaBi
set_option linter.unusedVariables false
set_option linter.unusedSimpArgs false
set_option linter.unusedSectionVars false
set_option linter.constructorNameAsVariable false
namespace Go.Proofs.Ytfefmgadfklgmaa
open Go.RowKit

attribute [local go_sem] gw_cell gw_frozen gw_size

section
variable (y : Yst) (v : Vat)
/-- what is eaten, and what it gives -/
def Yst.ea : Int := v.sl * y.rl v.tl v.th / 1000
def Yst.eb : Int := upI (v.sh * y.rh v.tl v.th) 1000
def Yst.pa : Int := y.ea v * y.sl / 1000
def Yst.pb : Int := upI (y.eb v * y.sh) 1000
def Yst.ga : Int := y.ea v * y.gl / 1000
def Yst.gb : Int := upI (y.eb v * y.gh) 1000
def Yst.wa : Int := y.ea v * y.hl * 1000 / v.c
def Yst.wb : Int := upI (y.eb v * y.hh * 1000) v.c
def Yst.sa : Int := v.sl * (1000 - y.rh v.tl v.th) / 1000
def Yst.sb : Int := upI (v.sh * (1000 - y.rl v.tl v.th)) 1000
def Yst.hour (cl ch : Int) : Vat := ⟨y.sa v, y.sb v, v.el + y.ea v, v.eh + y.eb v, v.pl + y.pa v, v.ph + y.pb v, v.gl + y.ga v, v.gh + y.gb v, y.ga v, y.gb v, v.tl + y.wa v + -ch, v.th + y.wb v + -cl, v.c⟩
end
theorem part_range {a r N : Int} (a0 : 0 ≤ a) (r0 : 0 ≤ r) (r1 : r ≤ 1000) (aN : a ≤ N) : (0 ≤ a * r ∧ a * r ≤ N * 1000) ∧ (0 ≤ a * r / 1000 ∧ a * r / 1000 ≤ a) ∧ (0 ≤ upI (a * r) 1000 ∧ upI (a * r) 1000 ≤ a) := by
  have p0 : 0 ≤ a * r := Int.mul_nonneg a0 r0
  have p1 : a * r ≤ a * 1000 := Int.mul_le_mul_of_nonneg_left r1 a0
  unfold upI
  omega
theorem part_le {a b r s : Int} (a0 : 0 ≤ a) (ab : a ≤ b) (r0 : 0 ≤ r) (rs : r ≤ s) : a * r / 1000 ≤ upI (b * s) 1000 := by
  have : a * r ≤ b * s := Int.mul_le_mul ab rs r0 (by omega)
  unfold upI
  omega
theorem rLo_le (A : Nat → Int) (f : Nat) : ∀ k i, i < k → rLo A f k ≤ A (f + i)
  | k + 1, i, h => by
    show minZ _ _ ≤ _
    rw [minZ_eq]
    by_cases e : i = k
    · subst e; omega
    · have := rLo_le A f k i (by omega); omega
theorem rHi_ge (B : Nat → Int) (f : Nat) : ∀ k i, i < k → B (f + i) ≤ rHi B f k
  | k + 1, i, h => by
    show _ ≤ maxZ _ _
    rw [maxZ_eq]
    by_cases e : i = k
    · subst e; omega
    · have := rHi_ge B f k i (by omega); omega
theorem rLo_ge {A : Nat → Int} {f : Nat} {c : Int} : ∀ k, (∀ i, i ≤ k - 1 → c ≤ A (f + i)) → c ≤ rLo A f k
  | 0, h => h 0 (by omega)
  | k + 1, h => by
    show _ ≤ minZ _ _
    rw [minZ_eq]
    have h1 := rLo_ge k (fun i hi => h i (by omega))
    have h2 := h k (by omega)
    omega
theorem rHi_le {B : Nat → Int} {f : Nat} {c : Int} : ∀ k, (∀ i, i ≤ k - 1 → B (f + i) ≤ c) → rHi B f k ≤ c
  | 0, h => h 0 (by omega)
  | k + 1, h => by
    show maxZ _ _ ≤ _
    rw [maxZ_eq]
    have h1 := rHi_le k (fun i hi => h i (by omega))
    have h2 := h k (by omega)
    omega
theorem rate_range {y : Yst} (hB : ystB y = true) {tl th : Int} (ht : tl ≤ th) : 0 ≤ y.rl tl th ∧ y.rl tl th ≤ y.rh tl th ∧ y.rh tl th ≤ 1000 := by
  obtain ⟨⟨n16, nR⟩, -, hT, hr, -, -, -⟩ := ystB_t hB
  have f0 := idx_le y.T y.nT tl
  have f1 := idx_le y.T y.nT th
  have f2 := idx_mono y.T y.nT ht
  unfold Yst.rl Yst.rh Yst.fst Yst.many
  have a := rLo_le y.A (idx y.T y.nT tl) (idx y.T y.nT th + 1 - idx y.T y.nT tl) 0 (by omega)
  have b := rHi_ge y.B (idx y.T y.nT tl) (idx y.T y.nT th + 1 - idx y.T y.nT tl) 0 (by omega)
  have c := hr (idx y.T y.nT tl + 0) (by omega)
  refine ⟨rLo_ge _ (fun i hi => (hr _ (by omega)).1), by omega, rHi_le _ (fun i hi => (hr _ (by omega)).2.2)⟩

structure HourOk (y : Yst) (v : Vat) : Prop where
  e : 0 ≤ y.ea v ∧ y.ea v ≤ y.eb v ∧ y.eb v ≤ v.sh
  p : 0 ≤ y.pa v ∧ y.pa v ≤ y.pb v ∧ y.pb v ≤ y.eb v
  g : 0 ≤ y.ga v ∧ y.ga v ≤ y.gb v ∧ y.gb v ≤ y.eb v
  w : 0 ≤ y.wa v ∧ y.wa v ≤ y.wb v ∧ y.wb v ≤ 10737418240000000
  s : 0 ≤ y.sa v ∧ y.sa v ≤ y.sb v ∧ y.sb v ≤ v.sh
  h : (0 ≤ y.ea v * y.hl ∧ y.ea v * y.hl ≤ 10737418240000) ∧ (0 ≤ y.eb v * y.hh ∧ y.eb v * y.hh ≤ 10737418240000)
theorem hour_range {y : Yst} (hB : ystB y = true) {v : Vat} (hv : vatB v = true) : HourOk y v := by
  obtain ⟨-, -, -, -, ⟨s0, s1, s2⟩, ⟨g0, g1, g2⟩, h0, h1, h2⟩ := ystB_t hB
  obtain ⟨⟨v0, v1, v2⟩, -, -, -, -, ⟨t0, t1, t2⟩, c0, c1⟩ := vatB_t hv
  obtain ⟨r0, r1, r2⟩ := rate_range hB t1
  have e1 := (part_range v0 r0 (show y.rl v.tl v.th ≤ 1000 by omega) (Int.le_trans v1 v2)).2.1
  have e2 := (part_range (show 0 ≤ v.sh by omega) (show 0 ≤ y.rh v.tl v.th by omega) r2 v2).2.2
  have e3 := part_le v0 v1 r0 r1
  have E : 0 ≤ y.ea v ∧ y.ea v ≤ y.eb v ∧ y.eb v ≤ v.sh := ⟨e1.1, e3, e2.2⟩
  have p1 := (part_range E.1 s0 (show y.sl ≤ 1000 by omega) (show y.ea v ≤ 1073741824 by omega)).2.1
  have p2 := (part_range (show 0 ≤ y.eb v by omega) (show 0 ≤ y.sh by omega) s2 (show y.eb v ≤ 1073741824 by omega)).2.2
  have p3 := part_le E.1 E.2.1 s0 s1
  have q1 := (part_range E.1 g0 (show y.gl ≤ 1000 by omega) (show y.ea v ≤ 1073741824 by omega)).2.1
  have q2 := (part_range (show 0 ≤ y.eb v by omega) (show 0 ≤ y.gh by omega) g2 (show y.eb v ≤ 1073741824 by omega)).2.2
  have q3 := part_le E.1 E.2.1 g0 g1
  have u1 := (part_range v0 (show 0 ≤ 1000 - y.rh v.tl v.th by omega) (by omega) (Int.le_trans v1 v2)).2.1
  have u2 := (part_range (show 0 ≤ v.sh by omega) (show 0 ≤ 1000 - y.rl v.tl v.th by omega) (by omega) v2).2.2
  have u3 := part_le v0 v1 (show 0 ≤ 1000 - y.rh v.tl v.th by omega) (show 1000 - y.rh v.tl v.th ≤ 1000 - y.rl v.tl v.th by omega)
  have h3 : 0 ≤ y.ea v * y.hl := Int.mul_nonneg E.1 h0
  have h4 : y.ea v * y.hl ≤ y.eb v * y.hh := Int.mul_le_mul E.2.1 h1 h0 (by omega)
  have h5 : y.eb v * y.hh ≤ 1073741824 * 10000 := Int.mul_le_mul (by omega) h2 (by omega) (by omega)
  have w1 : 0 ≤ y.wa v := Int.ediv_nonneg (by omega) (by omega)
  have w3 : y.wb v ≤ 10737418240000000 := upI_le c0 (by
    have := Int.mul_le_mul_of_nonneg_left c0 (show (0 : Int) ≤ 10737418240000000 by omega)
    omega)
  have w2 : y.wa v ≤ y.wb v := by
    have k1 : y.wa v * v.c ≤ y.ea v * y.hl * 1000 := Int.ediv_mul_le _ (by omega)
    have k2 : y.eb v * y.hh * 1000 ≤ y.wb v * v.c := le_upI c0
    exact Int.le_of_mul_le_mul_right (show y.wa v * v.c ≤ y.wb v * v.c by omega) (by omega)
  exact ⟨E, ⟨p1.1, p3, p2.2⟩, ⟨q1.1, q3, q2.2⟩, ⟨w1, w2, w3⟩, ⟨u1.1, u3, u2.2⟩, ⟨h3, by omega⟩, by omega, by omega⟩
end Go.Proofs.Ytfefmgadfklgmaa
