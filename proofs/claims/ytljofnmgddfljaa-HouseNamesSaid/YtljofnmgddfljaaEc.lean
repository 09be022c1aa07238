/- Plain laws of narrower contents: what is within another content stays within it. No conditions beyond each theorem's own. -/
import Derived.Test.YtljofnmgddfljaaEb
set_option linter.unusedVariables false
set_option linter.unusedSimpArgs false
set_option linter.unusedSectionVars false
set_option linter.constructorNameAsVariable false
namespace Go.Proofs.Ytljofnmgddfljaa
open Go.RowKit

/-- a content within another one -/
structure Inside (x y : Cont) : Prop where
  day : x.day = y.day
  a0 : y.alo ≤ x.alo
  a1 : x.alo ≤ x.ahi
  a2 : x.ahi ≤ y.ahi
  w0 : y.wlo ≤ x.wlo
  w1 : x.wlo ≤ x.whi
  w2 : x.whi ≤ y.whi
theorem leftLo_mono {a b sh : Int} (h : a ≤ b) (h2 : sh ≤ 1000000000) : leftLo a sh ≤ leftLo b sh := by
  unfold leftLo
  have := Int.mul_le_mul_of_nonneg_right h (show 0 ≤ 1000000000 - sh by omega)
  omega
theorem leftHi_mono {a b sl : Int} (h : a ≤ b) (h2 : sl ≤ 1000000000) : leftHi a sl ≤ leftHi b sl := by
  unfold leftHi
  exact upI_mono (by omega) (Int.mul_le_mul_of_nonneg_right h (by omega))
section
variable {C : Clim} {k : Nat} {F G : Nat → Int}
theorem Inside.cont {x y : Cont} (h : Inside x y) (hy : contB y = true) : contB x = true := by
  obtain ⟨d, ⟨a0, a1, a2⟩, b0, b1, b2⟩ := contB_t hy
  have e := h.day
  have q0 := h.a0
  have q1 := h.a1
  have q2 := h.a2
  have r0 := h.w0
  have r1 := h.w1
  have r2 := h.w2
  simp only [contB, Bool.and_eq_true]
  exact ⟨inB_t.2 (by omega), spanB_t.2 (by omega), spanB_t.2 (by omega)⟩
theorem Inside.next (hB : climB C = true) (hst : staysB C.nA k F G = true) {x y : Cont} (h : Inside x y) (hx : contB x = true) (hd : x.day < 65536) : Inside (x.next C F G k) (y.next C F G k) := by
  obtain ⟨-, ⟨a1, a2⟩, nw, ⟨b1, b2⟩, ra, rw'⟩ := climB_t hB
  have hf := (floorOf_lt hst a1 x.day).1
  have hs := seasonOf_lt (C := C) (day := x.day) (by omega)
  obtain ⟨p1, p2, p3⟩ := (ra _ hf).2 _ hs
  obtain ⟨q1, q2, q3⟩ := (rw' _ hf).2 _ hs
  obtain ⟨_, ⟨x0, x1, _⟩, x3, x4, _⟩ := contB_t hx
  unfold Cont.next
  rw [← h.day]
  exact ⟨by show x.day + 1 = y.day + 1; have := h.day; omega, leftLo_mono h.a0 (by omega), left_le x0 x1 p1 p2 (by omega), leftHi_mono h.a2 (by omega), leftLo_mono h.w0 (by omega), left_le x3 x4 q1 q2 (by omega), leftHi_mono h.w2 (by omega)⟩
theorem Inside.days (hB : climB C = true) (hst : staysB C.nA k F G = true) {x y : Cont} (h : Inside x y) (hy : contB y = true) : ∀ j : Nat, y.day + j ≤ 65536 → Inside (dayC C F G k x j) (dayC C F G k y j)
  | 0, _ => h
  | j + 1, hj => by
    have i := Inside.days hB hst h hy j (by omega)
    have c := dayC_ok hB hst hy j (by omega)
    exact i.next hB hst (i.cont c.1) (by have := i.day; omega)
/-- days that are taken in two parts -/
theorem at_split {x : Cont} {day d : Int} (h : errH C x k F G day = 0) (h1 : x.day ≤ d) (h2 : d ≤ day) : errH C (atV C x k F G d) k F G day = 0 ∧ atV C (atV C x k F G d) k F G day = atV C x k F G day := by
  obtain ⟨g1, g2, g3, g4, g5, g6⟩ := errH_zero h
  obtain ⟨e1, e2⟩ := errH_day h h1 h2
  obtain ⟨c1, c2⟩ := dayC_ok g1 g3 g2 (d - x.day).toNat (by omega)
  have e : errH C (atV C x k F G d) k F G day = 0 := by
    rw [e2]
    exact errH_mk g1 c1 g3 (by omega) g5 (fun h => by have := g6 (by omega); omega)
  refine ⟨e, ?_⟩
  rw [atV_ok e, atV_ok h, e2, dayC_add]
  congr 1
  omega
theorem at_inside {x y : Cont} {day : Int} (h : Inside x y) (he : errH C y k F G day = 0) : errH C x k F G day = 0 ∧ Inside (atV C x k F G day) (atV C y k F G day) := by
  obtain ⟨g1, g2, g3, g4, g5, g6⟩ := errH_zero he
  have e := h.day
  have ex : errH C x k F G day = 0 := errH_mk g1 (h.cont g2) g3 (by omega) g5 (fun h => by have := g6 (by omega); omega)
  refine ⟨ex, ?_⟩
  rw [atV_ok ex, atV_ok he, e]
  exact h.days g1 g3 g2 _ (by omega)
end
end Go.Proofs.Ytljofnmgddfljaa
