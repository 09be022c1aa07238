/- Plain laws of measurements: what shows less with less precision; the common part is within both. Plain laws of days: each day up to a later one can be asked for; days in two parts; what Weak says. Plain laws of narrower contents: what is within another content stays within it. Contracts of the law's inner, has, leaves; plain laws of what leaves. Contract of the law's live: a true cask stays within the spans of its days. Contract of the law's around; plain laws: what is true and measured rightly. HouseTrue walked: it returns true. No conditions beyond each theorem's own. -/
import Derived.Test.YtjgnafhbeekebaaGreatKf
import Derived.Test.YtjgnafhbeekebaaGreatKg
import Derived.Test.YtjgnafhbeekebaaGreatKh
import Derived.Test.YtjgnafhbeekebaaGreatAw
import Derived.Test.YtjgnafhbeekebaaGreatAz
set_option linter.unusedVariables false
set_option linter.unusedSimpArgs false
set_option linter.unusedSectionVars false
set_option linter.constructorNameAsVariable false
namespace Go.Proofs.YtjgnafhbeekebaaGreat.L7
open Go.RowKit

theorem showsN_zero {x y : Cont} : showsN x y = 0 ↔ meetB x y = true := by
  unfold showsN
  constructor
  · intro h
    split at h
    · assumption
    · split at h
      · omega
      · split at h <;> omega
  · intro h; rw [if_pos h]
end Go.Proofs.YtjgnafhbeekebaaGreat.L7

namespace Go.Proofs.YtjgnafhbeekebaaGreat.L7
open Go.RowKit

section
variable {C : Clim} {x : Cont} {k : Nat} {F G : Nat → Int}
theorem errH_mk (h1 : climB C = true) (h2 : contB x = true) (h3 : staysB C.nA k F G = true) {day : Int} (h4 : x.day ≤ day) (h5 : day ≤ 65536) (h6 : x.day < day → F 0 ≤ x.day) : errH C x k F G day = 0 := by
  unfold errH
  rw [if_pos ⟨h1, h2, h3⟩, if_pos (inB_t.2 ⟨by have := (contB_t h2).1; omega, h5⟩), if_neg (by omega), if_neg]
  rintro ⟨a, b⟩
  have := h6 b
  omega
end
end Go.Proofs.YtjgnafhbeekebaaGreat.L7

namespace Go.Proofs.YtjgnafhbeekebaaGreat.L7
open Go.RowKit

theorem leftLo_mono {a b sh : Int} (h : a ≤ b) (h2 : sh ≤ 1000000000) : leftLo a sh ≤ leftLo b sh := by
  unfold leftLo
  have := Int.mul_le_mul_of_nonneg_right h (show 0 ≤ 1000000000 - sh by omega)
  omega
theorem leftHi_mono {a b sl : Int} (h : a ≤ b) (h2 : sl ≤ 1000000000) : leftHi a sl ≤ leftHi b sl := by
  unfold leftHi
  exact upI_mono (by omega) (Int.mul_le_mul_of_nonneg_right h (by omega))
section
variable {C : Clim} {k : Nat} {F G : Nat → Int}
end
end Go.Proofs.YtjgnafhbeekebaaGreat.L7

namespace Go.Proofs.YtjgnafhbeekebaaGreat.L7
open Go.RowKit

attribute [local go_sem] gw_cell gw_frozen gw_size

/-- the least and the most that can leave -/
def goLo (n sl : Int) : Int := (n * sl + 1000000000 - 1) / 1000000000
def goHi (n sh : Int) : Int := n * sh / 1000000000
/-- what is left behind a day; whether it can be said -/
def leavesV (n sl sh b : Int) : Int := if goHi n sh < goLo n sl then n else n - innerI (goLo n sl) (goHi n sh) b
def leavesB (n sl sh : Int) : Bool := !decide (goHi n sh < goLo n sl)
theorem go_range {n sl sh : Int} (h0 : 0 ≤ n) (h2 : n ≤ 2147483648) (h3 : 0 ≤ sl) (h4 : sl ≤ sh) (h5 : sh ≤ 100000000) : 0 ≤ goLo n sl ∧ goLo n sl ≤ 2147483648 ∧ 0 ≤ goHi n sh ∧ goHi n sh ≤ n := by
  have m1 : 0 ≤ n * sl := Int.mul_nonneg h0 h3
  have m2 : n * sl ≤ 2147483648 * 100000000 := Int.mul_le_mul h2 (by omega) h3 (by omega)
  have m3 : 0 ≤ n * sh := Int.mul_nonneg h0 (by omega)
  have m4 : n * sh ≤ n * 100000000 := Int.mul_le_mul_of_nonneg_left h5 h0
  unfold goLo goHi
  omega
theorem leavesV_range {n sl sh b : Int} (h0 : 0 ≤ n) (h2 : n ≤ 2147483648) (h3 : 0 ≤ sl) (h4 : sl ≤ sh) (h5 : sh ≤ 100000000) : 0 ≤ leavesV n sl sh b ∧ leavesV n sl sh b ≤ n := by
  obtain ⟨g0, g1, g2, g3⟩ := go_range h0 h2 h3 h4 h5
  unfold leavesV
  split
  · omega
  · have := innerI_range (b := b) (show goLo n sl ≤ goHi n sh by omega)
    omega
/-- what is left is within what must be left -/
theorem leavesV_in {n sl sh b lo hi : Int} (hl : leavesB n sl sh = true) (h0 : 0 ≤ n) (h2 : n ≤ 2147483648) (h3 : 0 ≤ sl) (h4 : sl ≤ sh) (h5 : sh ≤ 100000000) (h6 : 0 ≤ lo) (h7 : lo ≤ n) (h8 : n ≤ hi) :
    leftLo lo sh ≤ leavesV n sl sh b ∧ leavesV n sl sh b ≤ leftHi hi sl := by
  have hg : ¬ goHi n sh < goLo n sl := by simpa [leavesB] using hl
  have hi := innerI_range (b := b) (show goLo n sl ≤ goHi n sh by omega)
  have a1 := leftLo_mono (sh := sh) h7 (by omega)
  have a2 := leftHi_mono (sl := sl) h8 (by omega)
  have b1 : leftLo n sh ≤ n - goHi n sh := by
    unfold leftLo goHi
    rw [Int.mul_sub]
    omega
  have b2 : n - goLo n sl ≤ leftHi n sl := by
    unfold leftHi goLo upI
    rw [Int.mul_sub]
    omega
  unfold leavesV
  rw [if_neg hg]
  omega

end Go.Proofs.YtjgnafhbeekebaaGreat.L7

namespace Go.Proofs.YtjgnafhbeekebaaGreat.L7
open Go.RowKit

attribute [local go_sem] gw_cell gw_frozen gw_size

/-- a true cask within a content -/
structure Truly (y : Cont) (a w : Int) : Prop where
  a0 : y.alo ≤ a
  a1 : a ≤ y.ahi
  w0 : y.wlo ≤ w
  w1 : w ≤ y.whi
theorem Truly.next {C : Clim} {x : Cont} {k : Nat} {F G : Nat → Int} {j : Nat} {dd a w b c : Int} (h : Truly (dayC C F G k x j) a w) (hd : dd = x.day + j) (hj : x.day + (j + 1) ≤ 65536) (hB : climB C = true) (hst : staysB C.nA k F G = true) (hx : contB x = true)
    (h1 : leavesB a ((C.RA (floorOf F G k dd)).A (seasonOf C dd)) ((C.RA (floorOf F G k dd)).B (seasonOf C dd)) = true) (h2 : leavesB w ((C.RW (floorOf F G k dd)).A (seasonOf C dd)) ((C.RW (floorOf F G k dd)).B (seasonOf C dd)) = true) :
    Truly (dayC C F G k x (j + 1)) (leavesV a ((C.RA (floorOf F G k dd)).A (seasonOf C dd)) ((C.RA (floorOf F G k dd)).B (seasonOf C dd)) b) (leavesV w ((C.RW (floorOf F G k dd)).A (seasonOf C dd)) ((C.RW (floorOf F G k dd)).B (seasonOf C dd)) c) := by
  obtain ⟨oy, ey⟩ := dayC_ok hB hst hx j (by omega)
  obtain ⟨_, ⟨y0, y1, y2⟩, y3, y4, y5⟩ := contB_t oy
  obtain ⟨⟨_, _⟩, ⟨na1, na2⟩, nw, ⟨nb1, nb2⟩, ra, rw'⟩ := climB_t hB
  have fl := (floorOf_lt hst na1 dd).1
  obtain ⟨p1, p2, p3⟩ := (ra _ fl).2 (seasonOf C dd) (seasonOf_lt (by omega))
  obtain ⟨q1, q2, q3⟩ := (rw' _ fl).2 (seasonOf C dd) (seasonOf_lt (by omega))
  obtain ⟨t0, t1, t2, t3⟩ := h
  have A := leavesV_in (b := b) h1 (by omega) (by omega) p1 p2 p3 y0 t0 t1
  have W := leavesV_in (b := c) h2 (by omega) (by omega) q1 q2 q3 y3 t2 t3
  have ed : (dayC C F G k x j).day = dd := by rw [ey, hd]
  show Truly ((dayC C F G k x j).next C F G k) _ _
  unfold Cont.next
  rw [ed]
  exact ⟨A.1, A.2, W.1, W.2⟩
end Go.Proofs.YtjgnafhbeekebaaGreat.L7

namespace Go.Proofs.YtjgnafhbeekebaaGreat.L7
open Go.RowKit

attribute [local go_sem] gw_cell gw_frozen gw_size
attribute [local go_sem ↓] run_minZ run_maxZ

theorem around_parts {a t : Int} (h0 : 0 ≤ a) (h1 : 0 ≤ t) (hv : a + t ≠ 0) : (0 ≤ a * 10000 / (a + t) ∧ a * 10000 / (a + t) ≤ (a * 10000 + (a + t) - 1) / (a + t) ∧ (a * 10000 + (a + t) - 1) / (a + t) ≤ 10000) ∧ a * 10000 / (a + t) * (a + t) ≤ a * 10000 ∧ a * 10000 ≤ (a * 10000 + (a + t) - 1) / (a + t) * (a + t) := by
  have q1 := Int.ediv_mul_le (a * 10000) hv
  have q2 := le_upI (a := a * 10000) (show 1 ≤ a + t by omega)
  have q3 : (a * 10000 + (a + t) - 1) / (a + t) ≤ 10000 := upI_le (by omega) (by rw [Int.mul_add]; omega)
  have q4 : a * 10000 / (a + t) ≤ (a * 10000 + (a + t) - 1) / (a + t) := Int.ediv_le_ediv (by omega) (by omega)
  exact ⟨⟨Int.ediv_nonneg (by omega) (by omega), q4, q3⟩, q1, q2⟩
section
variable {x m : Cont} {a t : Int}
/-- what is true is within both: they have a common part, which has it -/
theorem met_truly (hx : contB x = true) (hm : contB m = true) (h1 : Truly x a t) (h2 : Truly m a t) : meetB x m = true ∧ Truly (meetC x m) a t := by
  obtain ⟨a0, a1, w0, w1⟩ := h1
  obtain ⟨b0, b1, v0, v1⟩ := h2
  refine ⟨(meetB_iff hx hm).2 (by omega), ?_⟩
  have e1 := maxZ_eq x.alo m.alo
  have e2 := minZ_eq x.ahi m.ahi
  have e3 := maxZ_eq x.wlo m.wlo
  have e4 := minZ_eq x.whi m.whi
  refine ⟨?_, ?_, ?_, ?_⟩
  · show maxZ x.alo m.alo ≤ a
    omega
  · show a ≤ minZ x.ahi m.ahi
    omega
  · show maxZ x.wlo m.wlo ≤ t
    omega
  · show t ≤ minZ x.whi m.whi
    omega
end

end Go.Proofs.YtjgnafhbeekebaaGreat.L7

namespace Go.Proofs.YtjgnafhbeekebaaGreat.L7
open Go.RowKit

attribute [local go_sem] gw_cell gw_frozen gw_size

/-- the true strength is within the strength -/
theorem str_truly {y : Cont} {a t : Int} (hy : contB y = true) (h : Truly y a t) : (0 ≤ strLo y ∧ strLo y ≤ 10000) ∧ (0 ≤ strHi y ∧ strHi y ≤ 10000) ∧ strLo y * (a + t) ≤ 10000 * a ∧ 10000 * a ≤ strHi y * (a + t) := by
  obtain ⟨-, ⟨x0, x1, x2⟩, x3, x4, x5⟩ := contB_t hy
  obtain ⟨t0, t1, t2, t3⟩ := h
  have L : (0 ≤ strLo y ∧ strLo y ≤ 10000) ∧ strLo y * (y.alo + y.whi) ≤ 10000 * y.alo := by
    unfold strLo
    split
    · rename_i hp
      have q0 : 0 ≤ y.alo * 10000 / (y.alo + y.whi) := Int.ediv_nonneg (by omega) (by omega)
      have q1 := Int.ediv_mul_le (y.alo * 10000) (show y.alo + y.whi ≠ 0 by omega)
      have q2 : y.alo * 10000 / (y.alo + y.whi) ≤ 10000 := by
        have q3 := Int.ediv_le_ediv (show 0 < y.alo + y.whi by omega) (show y.alo * 10000 ≤ 10000 * (y.alo + y.whi) by rw [Int.mul_add]; omega)
        rw [Int.mul_ediv_cancel _ (by omega)] at q3
        exact q3
      rw [Int.mul_comm 10000 y.alo]
      exact ⟨⟨q0, q2⟩, q1⟩
    · omega
  have U : (0 ≤ strHi y ∧ strHi y ≤ 10000) ∧ 10000 * y.ahi ≤ strHi y * (y.ahi + y.wlo) := by
    unfold strHi
    split
    · rename_i hp
      have q0 : 0 ≤ upI (y.ahi * 10000) (y.ahi + y.wlo) := upI_nonneg (by omega) (by omega)
      have q1 := le_upI (a := y.ahi * 10000) (show 1 ≤ y.ahi + y.wlo by omega)
      have q2 : upI (y.ahi * 10000) (y.ahi + y.wlo) ≤ 10000 := upI_le (by omega) (by rw [Int.mul_add]; omega)
      rw [Int.mul_comm 10000 y.ahi]
      exact ⟨⟨q0, q2⟩, q1⟩
    · omega
  obtain ⟨⟨l0, l1⟩, l2⟩ := L
  obtain ⟨⟨u0, u1⟩, u2⟩ := U
  refine ⟨⟨l0, l1⟩, ⟨u0, u1⟩, ?_, ?_⟩
  · have m1 := Int.mul_le_mul_of_nonneg_left t3 l0
    have m2 := Int.mul_le_mul_of_nonneg_right l1 (show 0 ≤ a - y.alo by omega)
    have e1 : strLo y * (a + t) = strLo y * y.alo + strLo y * (a - y.alo) + strLo y * t := by rw [← Int.mul_add, ← Int.mul_add]; congr 1; omega
    have e2 : strLo y * (y.alo + y.whi) = strLo y * y.alo + strLo y * y.whi := Int.mul_add _ _ _
    omega
  · have m1 := Int.mul_le_mul_of_nonneg_left t2 u0
    have m2 := Int.mul_le_mul_of_nonneg_right u1 (show 0 ≤ y.ahi - a by omega)
    have e1 : strHi y * (y.ahi + y.wlo) = strHi y * (a + y.wlo) + strHi y * (y.ahi - a) := by rw [← Int.mul_add]; congr 1; omega
    have e2 : strHi y * (a + y.wlo) = strHi y * a + strHi y * y.wlo := Int.mul_add _ _ _
    have e3 : strHi y * (a + t) = strHi y * a + strHi y * t := Int.mul_add _ _ _
    omega

end Go.Proofs.YtjgnafhbeekebaaGreat.L7
