/- An outlook with more stock, and one that sells less. No conditions beyond each theorem's own. -/
import Derived.Test.YtdcpgjepgajioaaQm
set_option linter.unusedVariables false
set_option linter.unusedSimpArgs false
set_option linter.unusedSectionVars false
set_option linter.constructorNameAsVariable false
namespace Go.Proofs.Ytdcpgjepgajioaa
open Go.RowKit

/-- what is sold, less by remainders -/
def lessV (le : Int) (V : Nat → Nat → Nat → Int) (i t p : Nat) : Int := max 0 (V i t p - le % ((p : Int) + 2))
theorem lessV_in {le : Int} {V : Nat → Nat → Nat → Int} {i t p : Nat} (h : 0 ≤ V i t p) : 0 ≤ lessV le V i t p ∧ lessV le V i t p ≤ V i t p := by
  unfold lessV
  have := Int.emod_nonneg le (show (p : Int) + 2 ≠ 0 by omega)
  omega
def Otl.more (o : Otl) (a : Option Addr) (c : Nat) (S : Nat → Int) : Otl := { o with aS := a, cS := c, S := S }
def Otl.less (o : Otl) (a : Option Addr) (c pn : Nat) (pA : Nat → Option Addr) (pC : Nat → Nat) (yA : Nat → Nat → Option Addr) (yC : Nat → Nat → Nat) (le : Int) : Otl :=
  { o with aP := a, cP := c, pA := pA, pN := fun _ => pn, pC := pC, yA := yA, yN := fun _ _ => o.nA, yC := yC, V := lessV le o.V }
section
variable {o : Otl} {a : Option Addr} {c : Nat} {S : Nat → Int} (hB : outB o = true)
include hB
theorem outB_paths : ∀ i, i < o.nP → o.pathB i = true := fun i hi => by
  have P := (outB_t hB).2.2.2.2.2.2.2.2.2 i hi
  have h3 : allB (o.pN i) (o.yearB i) = true := allB_t.2 fun t ht => by
    have Y := P.2.2 t ht
    have h4 : allB (o.yN i t) (fun p => inB (o.V i t p) 0 1099511627776) = true := allB_t.2 fun p hp => inB_t.2 (Y.2 p hp)
    unfold Otl.yearB
    rw [h4]
    simp [Y.1]
  unfold Otl.pathB
  rw [h3, decide_eq_true P.1, decide_eq_true P.2.1]
  rfl
theorem more_easier (h : ∀ j, j < o.nS → o.S j ≤ S j ∧ S j ≤ 1099511627776) : Easier o (o.more a c S) := by
  have b := outB_t hB
  have b' : outB (o.more a c S) = true := by
    refine outB_of (o := o.more a c S) b.1 ?_ b.2.2.1 b.2.2.2.1 b.2.2.2.2.1 b.2.2.2.2.2.1 b.2.2.2.2.2.2.1 ?_ ?_ ?_
    · exact allB_t.2 fun i hi => inB_t.2 (by have := b.2.1 i hi; have := h i hi; exact ⟨by show 0 ≤ S i; omega, by show S i ≤ _; omega⟩)
    · exact allB_t.2 fun i hi => inB_t.2 (b.2.2.2.2.2.2.2.1 i hi)
    · exact inB_t.2 (by have := b.2.2.2.2.2.2.2.2.1; exact ⟨by show (1 : Int) ≤ (o.nP : Int); omega, by show (o.nP : Int) ≤ 8; omega⟩)
    · exact outB_paths (o := o) hB
  exact ⟨hB, b', rfl, fun i hi => (h i hi).1, rfl, rfl, rfl, rfl, rfl, fun _ _ => rfl, fun i hi t ht p hp => by
    have Y := (b.2.2.2.2.2.2.2.2.2 i hi).2.2 t ht
    exact ⟨(Y.2 p (by rw [Y.1]; exact hp)).1, Int.le_refl _⟩⟩
theorem less_easier {pn : Nat} {pA : Nat → Option Addr} {pC : Nat → Nat} {yA : Nat → Nat → Option Addr} {yC : Nat → Nat → Nat} {le : Int} (hp : ∀ i, i < o.nP → o.pN i = pn ∧ pn ≤ 10) : Easier o (o.less a c pn pA pC yA yC le) := by
  have b := outB_t hB
  have v : ∀ i, i < o.nP → ∀ t, t < pn → ∀ p, p < o.nA → 0 ≤ o.V i t p ∧ o.V i t p ≤ 1099511627776 := fun i hi t ht p hpp => by
    have P := b.2.2.2.2.2.2.2.2.2 i hi
    have Y := P.2.2 t (by rw [(hp i hi).1]; exact ht)
    exact Y.2 p (by rw [Y.1]; exact hpp)
  have b' : outB (o.less a c pn pA pC yA yC le) = true := by
    refine outB_of (o := o.less a c pn pA pC yA yC le) b.1 ?_ b.2.2.1 b.2.2.2.1 b.2.2.2.2.1 b.2.2.2.2.2.1 b.2.2.2.2.2.2.1 ?_ ?_ ?_
    · exact allB_t.2 fun i hi => inB_t.2 (b.2.1 i hi)
    · exact allB_t.2 fun i hi => inB_t.2 (b.2.2.2.2.2.2.2.1 i hi)
    · exact inB_t.2 (by have := b.2.2.2.2.2.2.2.2.1; exact ⟨by show (1 : Int) ≤ (o.nP : Int); omega, by show (o.nP : Int) ≤ 8; omega⟩)
    · intro i hi
      have h3 : allB pn ((o.less a c pn pA pC yA yC le).yearB i) = true := allB_t.2 fun t ht => by
        have h4 : allB o.nA (fun p => inB (lessV le o.V i t p) 0 1099511627776) = true := allB_t.2 fun p hpp => inB_t.2 (by
          have z := v i hi t ht p hpp
          have l := lessV_in (le := le) z.1
          omega)
        show (decide (o.nA = o.nA) && allB o.nA (fun p => inB (lessV le o.V i t p) 0 1099511627776)) = true
        rw [h4]
        simp
      show (decide (pn = pn) && (decide (pn ≤ 10) && allB pn ((o.less a c pn pA pC yA yC le).yearB i))) = true
      rw [h3]
      simp [(hp i hi).2]
  exact ⟨hB, b', rfl, fun i hi => Int.le_refl _, rfl, rfl, rfl, rfl, rfl, fun i hi => (hp i hi).1.symm, fun i hi t ht p hpp => lessV_in (v i hi t (by rw [← (hp i hi).1]; exact ht) p hpp).1⟩
omit hB
theorem more_in {w : World} (h : o.In w) (hS : IntsAt w a o.nS S) : (o.more a c S).In w := ⟨hS, h.iA, h.iP, h.iY, h.iV⟩
theorem more_fits (h : o.Fits) : (o.more a c S).Fits := ⟨h.nS, h.nA, h.nP, h.pN, h.yN⟩
theorem less_fits {pn : Nat} {pA : Nat → Option Addr} {pC : Nat → Nat} {yA : Nat → Nat → Option Addr} {yC : Nat → Nat → Nat} {le : Int} (h : o.Fits) (hp : pn ≤ 10) : (o.less a c pn pA pC yA yC le).Fits := ⟨h.nS, h.nA, h.nP, fun _ _ => by show pn ≤ _; omega, fun _ _ _ _ => h.nA⟩
theorem less_in {w : World} {b0 pn : Nat} {le : Int} (h : o.In w) (hJ : JList w b0 a o.nP c pn o.nA (lessV le o.V)) : ∃ pA pC yA yC, (o.less a c pn pA pC yA yC le).In w := by
  obtain ⟨pA, pC, yA, yC, h1, h2⟩ := hJ.out
  exact ⟨pA, pC, yA, yC, h.iS, h.iA, h1, fun i hi => (h2 i hi).1, fun i hi t ht => (h2 i hi).2 t ht⟩
end
end Go.Proofs.Ytdcpgjepgajioaa
