/- Contract of kinds.add; what an amount can be, as a number. No conditions beyond each theorem's own. -/
import Derived.Test.YticgkhoidgkejaaGb
import Derived.Test.YticgkhoidgkejaaGg
set_option linter.unusedVariables false
set_option linter.unusedSimpArgs false
set_option linter.unusedSectionVars false
set_option linter.constructorNameAsVariable false
namespace Go.Proofs.Yticgkhoidgkejaa
open Go.RowKit

theorem setCell_self {w : World} {B k : Nat} {v : Value} (h : w.cell? ⟨B, k, none⟩ = some v) : w.setCell ⟨B, k, none⟩ v = w := by
  have e : (w.setCell ⟨B, k, none⟩ v).heap = w.heap := by
    simp only [World.setCell]
    apply Array.ext_getElem?
    intro j
    rw [Array.getElem?_modify]
    split
    · rename_i hj
      subst hj
      simp only [World.cell?] at h
      split at h
      · rename_i c t f hb
        rw [hb]
        simp at h ⊢
        apply Array.ext_getElem?
        intro i
        rw [Array.getElem?_setIfInBounds]
        split
        · rename_i hi
          subst hi
          rw [h]
          have := (Array.getElem?_eq_some_iff.1 h).1
          rw [if_pos this]
        · rfl
      · cases h
    · rfl
  have e2 : w.setCell ⟨B, k, none⟩ v = { w with heap := (w.setCell ⟨B, k, none⟩ v).heap } := rfl
  rw [e2, e]

theorem row_set1 {W : World} {base size n B : Nat} {e : TypeId} {v : Value} {xs : List Value} (h : W.ownsRow base e size v n xs) (hB : v.ownBlock ≠ some B) (x : Value) : (W.setCell ⟨B, 0, none⟩ x).ownsRow base e size v n xs := h.kept (grownBy_set W B 0 x) (.inr hB)
/-- what add makes of a number -/
def addK (z k : Int) (b : Bool) : Int := if b then bits .or .i64 z k else z

set_option maxHeartbeats 400000 in
theorem add_f (B : Nat) (z k : Int) (w : World) (hc : w.cell? ⟨B, 0, none⟩ = some (.int .i64 z)) :
    Calls Try.prog 20 #[.pointer (some ⟨B, 0, none⟩), .int .i64 k, .bool false] w fun e w' => e = .returned (.tuple #[]) ∧ w = w' := by
  go_enter Try.func20, Try.ntmps20
  go_wp2
  go_end0
  exact ⟨rfl, rfl⟩
set_option maxHeartbeats 400000 in
theorem add_t (B : Nat) (z k : Int) (w : World) (hc : w.cell? ⟨B, 0, none⟩ = some (.int .i64 z)) (hf : w.frozen? ⟨B, 0, none⟩ = false) :
    Calls Try.prog 20 #[.pointer (some ⟨B, 0, none⟩), .int .i64 k, .bool true] w fun e w' => e = .returned (.tuple #[]) ∧ w.setCell ⟨B, 0, none⟩ (.int .i64 (bits .or .i64 z k)) = w' := by
  go_enter Try.func20, Try.ntmps20
  go_wp2
  go_end0
  exact ⟨rfl, rfl⟩
theorem add_any (B : Nat) (z k : Int) (b : Bool) (w : World) (hc : w.cell? ⟨B, 0, none⟩ = some (.int .i64 z)) (hf : w.frozen? ⟨B, 0, none⟩ = false) :
    Calls Try.prog 20 #[.pointer (some ⟨B, 0, none⟩), .int .i64 k, .bool b] w fun e w' => e = .returned (.tuple #[]) ∧ w.setCell ⟨B, 0, none⟩ (.int .i64 (addK z k b)) = w' := by
  cases b with
  | true => exact add_t B z k w hc hf
  | false =>
    refine (add_f B z k w hc).mono ?_
    rintro e w' ⟨h1, rfl⟩
    exact ⟨h1, setCell_self hc⟩

/-- what an amount can be -/
def kindI (b1 b2 b3 : Bool) : Int := addK (addK (addK 0 2 b1) 4 b2) 8 b3
theorem kindI_eq (b1 b2 b3 : Bool) : kindI b1 b2 b3 = (if b1 then 2 else 0) + (if b2 then 4 else 0) + (if b3 then 8 else 0) := by
  cases b1 <;> cases b2 <;> cases b3 <;> decide
def dLo (d : Dr3) : Int := d.lo * 10000 / d.d
def dHi (d : Dr3) : Int := upI (d.hi * 10000) d.d
def kindD (d : Dr3) (cut en : Int) : Int := kindI (decide (cut ≤ dHi d)) (decide (dLo d < cut) && decide (en ≤ dHi d)) (decide (dLo d < en))
/-- the sum of the first amounts -/
def sumD (D : Nat → Dr3) : Nat → Int
  | 0 => 0
  | j + 1 => sumD D j + (D j).d
def cutAt (D : Nat → Dr3) (fore cut en : Int) (j : Nat) : Int := if sumD D (j + 1) ≤ fore then 1 else kindD (D j) cut en
def cutsOut (D : Nat → Dr3) (fore cut en : Int) (k : Nat) : List Value := (List.range k).map fun j => .int .i64 (cutAt D fore cut en j)
theorem cutsOut_succ (D : Nat → Dr3) (fore cut en : Int) (k : Nat) : cutsOut D fore cut en (k + 1) = cutsOut D fore cut en k ++ [.int .i64 (cutAt D fore cut en k)] := by
  simp [cutsOut, List.range_succ]
def cutsErr (m : Nat) (c : Crv) (p : Pot3) (M : Nat → Int) (k : Nat) (fore cut en : Int) : Int :=
  if earlyE c.n m c.L c.A c.B p.v p.lo p.hi k ≠ 0 then earlyE c.n m c.L c.A c.B p.v p.lo p.hi k else if inB fore 0 1073741824 && (inB en 0 cut && decide (cut ≤ 10000)) then runErr m c p M k else 2
theorem cuts_valid {m : Nat} {c : Crv} {p : Pot3} {M : Nat → Int} {k : Nat} {fore cut en : Int} (h : cutsErr m c p M k fore cut en = 0) :
    earlyE c.n m c.L c.A c.B p.v p.lo p.hi k = 0 ∧ inB fore 0 1073741824 = true ∧ inB en 0 cut = true ∧ cut ≤ 10000 ∧ runErr m c p M k = 0 := by
  unfold cutsErr at h
  split at h
  · rename_i h1; exact absurd h h1
  · rename_i h1
    split at h
    · rename_i h2
      simp only [Bool.and_eq_true, decide_eq_true_eq] at h2
      exact ⟨Decidable.byContradiction h1, h2.1, h2.2.1, h2.2.2, h⟩
    · omega
end Go.Proofs.Yticgkhoidgkejaa
