/- Plain: from malt to spirit: sugar of a mash, what is surely made of it, what is surely drawn. No conditions beyond each theorem's own. -/
import Derived.Test.YtfefmgadfklgmaaBo
import Derived.Test.YtfefmgadfklgmaaBe
import Derived.Test.YtfefmgadfklgmaaGf
import Derived.Test.YtfefmgadfklgmaaHg
set_option linter.unusedVariables false
set_option linter.unusedSimpArgs false
set_option linter.unusedSectionVars false
set_option linter.constructorNameAsVariable false
namespace Go.Proofs.Ytfefmgadfklgmaa
open Go.RowKit

/-- a mash without an error: its sugar -/
theorem field_mash {m : Msh} (h : mashE m = 0) : (1 ≤ m.g ∧ m.g ≤ 16777216) ∧ (0 ≤ m.xh ∧ m.xh ≤ 1000) ∧ (1 ≤ m.w ∧ m.w ≤ 16777216) ∧ m.g * m.xh ≤ 1000 * ((mashO m).sh + (mashO m).lh) ∧ 1000 * (mashO m).sl ≤ m.g * m.xh ∧ (mashO m).vh ≤ m.w ∧ 1 ≤ (mashO m).vl ∧ (mashO m).vl ≤ (mashO m).vh ∧ 0 ≤ (mashO m).sl ∧ (mashO m).sl ≤ (mashO m).sh ∧ (mashO m).sh ≤ 1000000000000000 ∧ 0 ≤ (mashO m).lh ∧ (mashO m).lh ≤ 1000000000000000 := by
  have hB : mashB m = true := by
    unfold mashE at h
    split at h
    · assumption
    · omega
  have hk : ¬ m.w - m.kh < 1 := by
    unfold mashE at h
    rw [if_pos hB] at h
    intro hh
    rw [if_pos hh] at h
    omega
  have e : mashO m = ⟨m.sl (m.w - m.kh), m.sh (m.w - m.kl), m.w - m.kh, m.w - m.kl, m.sl m.kl, m.sh m.kh⟩ := if_pos h
  obtain ⟨⟨g0, g1⟩, ⟨w0, w1⟩, ⟨x0, x1, x2⟩, -⟩ := mashB_t hB
  obtain ⟨-, -, k0, k1, k2⟩ := mash_held hB
  rw [e]
  dsimp only
  have gx0 : 0 ≤ m.g * m.xl := Int.mul_nonneg (by omega) x0
  have gxx : m.g * m.xl ≤ m.g * m.xh := Int.mul_le_mul_of_nonneg_left x1 (by omega)
  have gx1 : m.g * m.xh ≤ 16777216 * 1000 := Int.mul_le_mul g1 x2 (by omega) (by omega)
  unfold Msh.sl Msh.sh
  generalize m.g * m.xh = X at *
  generalize m.g * m.xl = Y at *
  generalize m.kl = kl at *
  generalize m.kh = kh at *
  generalize m.w = w at *
  have W0 : 1 ≤ 1000 * w := by omega
  have a1 := le_upI (a := X * (w - kl)) W0
  have a2 := le_upI (a := X * kh) W0
  have n1 : 0 ≤ X * (w - kl) := Int.mul_nonneg (by omega) (by omega)
  have n2 : 0 ≤ X * kh := Int.mul_nonneg (by omega) (by omega)
  have b1 := upI_nonneg n1 W0
  have b2 := upI_nonneg n2 W0
  have c1 : upI (X * (w - kl)) (1000 * w) ≤ 16777216 * 1000 := upI_le W0 (by
    have p := Int.mul_le_mul gx1 (show w - kl ≤ w by omega) (by omega) (by omega)
    have q := Int.mul_le_mul_of_nonneg_left (show w ≤ 1000 * w by omega) (show (0 : Int) ≤ 16777216 * 1000 by omega)
    omega)
  have c2 : upI (X * kh) (1000 * w) ≤ 16777216 * 1000 := upI_le W0 (by
    have p := Int.mul_le_mul gx1 (show kh ≤ w by omega) (by omega) (by omega)
    have q := Int.mul_le_mul_of_nonneg_left (show w ≤ 1000 * w by omega) (show (0 : Int) ≤ 16777216 * 1000 by omega)
    omega)
  have s0 : 0 ≤ Y * (w - kh) / (1000 * w) := Int.ediv_nonneg (Int.mul_nonneg gx0 (by omega)) (by omega)
  have s1 : Y * (w - kh) / (1000 * w) ≤ upI (X * (w - kl)) (1000 * w) := by
    unfold upI
    refine Int.ediv_le_ediv (by omega) ?_
    have p := Int.mul_le_mul gxx (show w - kh ≤ w - kl by omega) (by omega) (by omega)
    omega
  have d1 : Y * (w - kh) / (1000 * w) * (1000 * w) ≤ Y * (w - kh) := Int.ediv_mul_le _ (by omega)
  generalize upI (X * (w - kl)) (1000 * w) = s at *
  generalize upI (X * kh) (1000 * w) = l at *
  generalize Y * (w - kh) / (1000 * w) = z at *
  refine ⟨⟨g0, g1⟩, ⟨by omega, x2⟩, ⟨w0, w1⟩, ?_, ?_, by omega, by omega, by omega, s0, s1, by omega, b2, by omega⟩
  · refine Int.le_of_mul_le_mul_right (a := w) ?_ (by omega)
    have f : X * w ≤ X * (w - kl) + X * kh := by
      rw [← Int.mul_add]
      exact Int.mul_le_mul_of_nonneg_left (by omega) (by omega)
    have q : 1000 * (s + l) * w = s * (1000 * w) + l * (1000 * w) := by
      rw [← Int.add_mul, Int.mul_comm 1000 (s + l), Int.mul_assoc]
    omega
  · refine Int.le_of_mul_le_mul_right (a := w) ?_ (by omega)
    have p := Int.mul_le_mul gxx (show w - kh ≤ w by omega) (by omega) (by omega)
    have q : 1000 * z * w = z * (1000 * w) := by rw [Int.mul_comm 1000 z, Int.mul_assoc]
    omega

/-- wort in a vat -/
def wortV (sl sh tl th c : Int) : Vat := ⟨sl, sh, 0, 0, 0, 0, 0, 0, 0, 0, tl, th, c⟩
theorem field_vats {y : Yst} (hB : ystB y = true) {sl sh tl th c : Int} {F G : Nat → Int} : ∀ j, (∀ i, i ≤ j → vatB (y.vs (wortV sl sh tl th c) F G i) = true) →
    (y.vs (wortV sl sh tl th c) F G j).el + (y.vs (wortV sl sh tl th c) F G j).sl ≤ sl ∧ 0 ≤ (y.vs (wortV sl sh tl th c) F G j).el ∧ 1000 * (y.vs (wortV sl sh tl th c) F G j).pl ≤ (y.vs (wortV sl sh tl th c) F G j).el * y.sl
  | 0, _ => by
    show 0 + sl ≤ sl ∧ (0 : Int) ≤ 0 ∧ 1000 * (0 : Int) ≤ 0 * y.sl
    rw [Int.zero_mul]
    omega
  | j + 1, h => by
    have ih := field_vats hB j (fun i hi => h i (by omega))
    have v := h j (by omega)
    show (y.hour (y.vs (wortV sl sh tl th c) F G j) (F j) (G j)).el + (y.hour (y.vs (wortV sl sh tl th c) F G j) (F j) (G j)).sl ≤ sl ∧ 0 ≤ (y.hour (y.vs (wortV sl sh tl th c) F G j) (F j) (G j)).el ∧ 1000 * (y.hour (y.vs (wortV sl sh tl th c) F G j) (F j) (G j)).pl ≤ (y.hour (y.vs (wortV sl sh tl th c) F G j) (F j) (G j)).el * y.sl
    generalize y.vs (wortV sl sh tl th c) F G j = u at *
    obtain ⟨⟨v0, v1, v2⟩, -, -, -, -, ⟨t0, t1, t2⟩, -, -⟩ := vatB_t v
    obtain ⟨r0, r1, r2⟩ := rate_range hB t1
    have ys := (ystB_t hB).2.2.2.2.1
    show u.el + y.ea u + y.sa u ≤ sl ∧ 0 ≤ u.el + y.ea u ∧ 1000 * (u.pl + y.pa u) ≤ (u.el + y.ea u) * y.sl
    have e0 : 0 ≤ y.ea u := (part_range v0 r0 (show y.rl u.tl u.th ≤ 1000 by omega) (Int.le_trans v1 v2)).2.1.1
    have e1 : y.ea u + y.sa u ≤ u.sl := by
      unfold Yst.ea Yst.sa
      have p : u.sl * y.rl u.tl u.th ≤ u.sl * y.rh u.tl u.th := Int.mul_le_mul_of_nonneg_left r1 v0
      have q : u.sl * (1000 - y.rh u.tl u.th) = u.sl * 1000 - u.sl * y.rh u.tl u.th := Int.mul_sub _ _ _
      rw [q]
      omega
    have e2 : 1000 * y.pa u ≤ y.ea u * y.sl := by unfold Yst.pa; omega
    rw [Int.add_mul]
    omega
theorem field_last {y : Yst} (hB : ystB y = true) {sl sh tl th c : Int} {F G : Nat → Int} {j : Nat} (hv : ∀ i, i ≤ j → vatB (y.vs (wortV sl sh tl th c) F G i) = true) {X : Int} (hX : 1000 * sl ≤ X) (hs : sl ≤ sh) :
    (y.vs (wortV sl sh tl th c) F G j).pl ≤ sh * y.sl / 1000 ∧ (y.vs (wortV sl sh tl th c) F G j).sl ≤ sh ∧ 1000000 * (y.vs (wortV sl sh tl th c) F G j).pl ≤ (X + 1000) * y.sh := by
  obtain ⟨a, b, d⟩ := field_vats hB j hv
  have ys := (ystB_t hB).2.2.2.2.1
  obtain ⟨⟨v0, v1, v2⟩, ⟨e0, -, -⟩, -⟩ := vatB_t (hv j (Nat.le_refl _))
  generalize y.vs (wortV sl sh tl th c) F G j = u at *
  have p1 : u.el * y.sl ≤ sh * y.sl := Int.mul_le_mul_of_nonneg_right (by omega) ys.1
  have p2 : u.el * y.sl ≤ sl * y.sl := Int.mul_le_mul_of_nonneg_right (by omega) ys.1
  have p3 : 1000 * sl * y.sl ≤ X * y.sl := Int.mul_le_mul_of_nonneg_right hX ys.1
  have p4 : X * y.sl ≤ X * y.sh := Int.mul_le_mul_of_nonneg_left ys.2.1 (by omega)
  have p5 : (X + 1000) * y.sh = X * y.sh + 1000 * y.sh := Int.add_mul _ _ _
  have p6 : 1000 * sl * y.sl = 1000 * (sl * y.sl) := Int.mul_assoc _ _ _
  rw [p5]
  refine ⟨by omega, by omega, by omega⟩

/-- the sums of what is drawn -/
def tlo (D : Nat → L4.Dr3) : Nat → Int
  | 0 => 0
  | j + 1 => tlo D j + (D j).lo
def thi (D : Nat → L4.Dr3) : Nat → Int
  | 0 => 0
  | j + 1 => thi D j + (D j).hi
theorem least_stays {c : L4.Crv} {p : L4.Pot3} {d : Int} (g : L4.Good c.n c.L c.A c.B) (hp : p.ok) (h : L4.errD p d = 0) : c.least p d + c.stays p d ≤ p.lo ∧ p.lo ≤ c.most p d + c.stays p d := by
  obtain ⟨n1, n2, n3, n4, n5, n6, n7⟩ := L4.next_ok g hp h
  have q := L4.errD_zero h
  obtain ⟨p0, p1, p2, p3⟩ := hp
  refine ⟨?_, n6⟩
  have es : c.stays p d = max 0 (p.lo - c.most p d) := rfl
  by_cases hs : 0 < c.stays p d
  · omega
  · have e0 : c.stays p d = 0 := by omega
    have ew : c.weak p d = 0 := by
      have x0 : 0 ≤ p.lo * 10000 / p.v := Int.ediv_nonneg (by omega) (by omega)
      unfold L4.Crv.weak
      rw [e0, Int.zero_mul, Int.zero_ediv]
      split <;> omega
    have el : c.least p d = max (p.lo - (p.v - d)) (d * L4.vapLo c.L c.A c.n (c.weak p d) / 10000) := rfl
    rw [ew, g.vapLo_zero, Int.mul_zero, Int.zero_ediv] at el
    omega
theorem field_drawn {c : L4.Crv} {p : L4.Pot3} {M : Nat → Int} {k : Nat} (g : L4.Good c.n c.L c.A c.B) (hp : ∀ j, j ≤ k → (c.potAt p M j).ok) (he : ∀ j, j < k → c.errAt p M j = 0) : ∀ j, j ≤ k →
    tlo (c.outAt p M) j + (c.potAt p M j).lo ≤ p.lo ∧ p.lo ≤ thi (c.outAt p M) j + (c.potAt p M j).lo ∧ 0 ≤ tlo (c.outAt p M) j ∧ 0 ≤ thi (c.outAt p M) j ∧ thi (c.outAt p M) j ≤ (j : Int) * 1073741824
  | 0, _ => by
    show 0 + p.lo ≤ p.lo ∧ p.lo ≤ 0 + p.lo ∧ (0 : Int) ≤ 0 ∧ (0 : Int) ≤ 0 ∧ (0 : Int) ≤ ((0 : Nat) : Int) * 1073741824
    omega
  | j + 1, hj => by
    have ih := field_drawn g hp he j (by omega)
    have po := hp j (by omega)
    have ls := least_stays g po (he j (by omega))
    obtain ⟨n1, n2, n3, n4, n5, n6, n7⟩ := L4.next_ok g po (he j (by omega))
    have q := inB_t.1 (L4.errD_zero (he j (by omega))).1
    have e : ((j + 1 : Nat) : Int) * 1073741824 = (j : Int) * 1073741824 + 1073741824 := by rw [show ((j + 1 : Nat) : Int) = (j : Int) + 1 from rfl, Int.add_mul]; simp
    show tlo (c.outAt p M) j + c.least (c.potAt p M j) (M j) + c.stays (c.potAt p M j) (M j) ≤ p.lo ∧ p.lo ≤ thi (c.outAt p M) j + c.most (c.potAt p M j) (M j) + c.stays (c.potAt p M j) (M j) ∧ 0 ≤ tlo (c.outAt p M) j + c.least (c.potAt p M j) (M j) ∧ 0 ≤ thi (c.outAt p M) j + c.most (c.potAt p M j) (M j) ∧ thi (c.outAt p M) j + c.most (c.potAt p M j) (M j) ≤ ((j + 1 : Nat) : Int) * 1073741824
    rw [e]
    omega
end Go.Proofs.Ytfefmgadfklgmaa
