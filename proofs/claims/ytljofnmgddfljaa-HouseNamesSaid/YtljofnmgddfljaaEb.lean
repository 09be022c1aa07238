/- Plain laws of days: each day up to a later one can be asked for; days in two parts; what Weak says. No conditions beyond each theorem's own. -/
import Derived.Test.YtljofnmgddfljaaCg
set_option linter.unusedVariables false
set_option linter.unusedSimpArgs false
set_option linter.unusedSectionVars false
set_option linter.constructorNameAsVariable false
namespace Go.Proofs.Ytljofnmgddfljaa
open Go.RowKit

section
variable {C : Clim} {x : Cont} {k : Nat} {F G : Nat → Int}
theorem errH_mk (h1 : climB C = true) (h2 : contB x = true) (h3 : staysB C.nA k F G = true) {day : Int} (h4 : x.day ≤ day) (h5 : day ≤ 65536) (h6 : x.day < day → F 0 ≤ x.day) : errH C x k F G day = 0 := by
  unfold errH
  rw [if_pos ⟨h1, h2, h3⟩, if_pos (inB_t.2 ⟨by have := (contB_t h2).1; omega, h5⟩), if_neg (by omega), if_neg]
  rintro ⟨a, b⟩
  have := h6 b
  omega
theorem errH_day {tu d : Int} (h : errH C x k F G tu = 0) (h1 : x.day ≤ d) (h2 : d ≤ tu) : errH C x k F G d = 0 ∧ atV C x k F G d = dayC C F G k x (d - x.day).toNat := by
  obtain ⟨g1, g2, g3, g4, g5, g6⟩ := errH_zero h
  have := errH_mk g1 g2 g3 h1 (by omega) (fun h => g6 (by omega))
  exact ⟨this, atV_ok this⟩
theorem dayC_add (j : Nat) : ∀ i, dayC C F G k (dayC C F G k x j) i = dayC C F G k x (j + i)
  | 0 => rfl
  | i + 1 => by
    show (dayC C F G k (dayC C F G k x j) i).next C F G k = (dayC C F G k x (j + i)).next C F G k
    rw [dayC_add j i]
theorem errH_range (d : Int) : errH C x k F G d = 0 ∨ errH C x k F G d = 1 ∨ errH C x k F G d = 2 ∨ errH C x k F G d = 4 ∨ errH C x k F G d = 7 := by
  unfold errH
  split
  · split
    · split
      · simp
      · split <;> simp
    · simp
  · simp
theorem weakErr_zero {tu least : Int} (h : weakErr C x k F G tu least = 0) : errH C x k F G tu = 0 := by
  unfold weakErr at h
  split at h
  · omega
  · split at h
    · exact h
    · omega
theorem weakErr_12 {tu least : Int} : weakErr C x k F G tu least ≠ 12 := by
  unfold weakErr
  have := errH_range (C := C) (x := x) (k := k) (F := F) (G := G) tu
  split
  · omega
  · split <;> omega
theorem weakS_le {m : Nat} {least : Int} : weakS C x k F G m least ≤ m + 1 := lb_le _ _ _
theorem weakS_lt {m : Nat} {least : Int} {j : Nat} (h : j < weakS C x k F G m least) : least ≤ strLo (dayC C F G k x j) := weakI_lt.1 (lb_lt _ _ _ _ h)
theorem weakS_stop {m : Nat} {least : Int} (h : weakS C x k F G m least < m + 1) : strLo (dayC C F G k x (weakS C x k F G m least)) < least := by
  exact Int.not_le.1 (fun h3 => lb_stop _ _ _ h (weakI_lt.2 h3))
end
end Go.Proofs.Ytljofnmgddfljaa
