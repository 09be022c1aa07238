/- Plain words: a curve in memory; the vapour of strengths. No conditions. -/
import Derived.Test.YtnmldophadanbaaKd
import Derived.Test.YtnmldophadanbaaKa
set_option linter.unusedVariables false
set_option linter.unusedSimpArgs false
set_option linter.unusedSectionVars false
set_option linter.constructorNameAsVariable false
namespace Go.Proofs.Ytnmldophadanbaa
open Go.RowKit

/-- the points of a curve lie in memory -/
structure Pts (w : World) (b off bv offv n : Nat) (L A B : Nat → Int) : Prop where
  lb : b < w.heap.size
  vb : bv < w.heap.size
  ls : ∀ i, i < n → w.cell? ⟨b, off + i, none⟩ = some (.int .i64 (L i))
  vs : ∀ i, i < n → w.cell? ⟨bv, offv + i * 2, none⟩ = some (.int .i64 (A i)) ∧ w.cell? ⟨bv, offv + i * 2 + 1, none⟩ = some (.int .i64 (B i))

theorem Pts.below {w w' : World} {b off bv offv n : Nat} {L A B : Nat → Int} (h : Pts w b off bv offv n L A B) (hb : Below w.heap.size w w') : Pts w' b off bv offv n L A B :=
  ⟨Nat.lt_of_lt_of_le h.lb hb.size, Nat.lt_of_lt_of_le h.vb hb.size, fun i hi => (hb.cell (p := ⟨b, off + i, none⟩) h.lb).trans (h.ls i hi),
    fun i hi => ⟨(hb.cell (p := ⟨bv, offv + i * 2, none⟩) h.vb).trans (h.vs i hi).1, (hb.cell (p := ⟨bv, offv + i * 2 + 1, none⟩) h.vb).trans (h.vs i hi).2⟩⟩

/-- a curve's box -/
structure CurveAt (w : World) (bc b off bv offv n cL cV : Nat) (L A B : Nat → Int) : Prop where
  cb : bc < w.heap.size
  c0 : w.cell? ⟨bc, 0, none⟩ = some (.slice (some ⟨b, off, none⟩) n cL)
  c1 : w.cell? ⟨bc, 1, none⟩ = some (.slice (some ⟨bv, offv, none⟩) n cV)
  pts : Pts w b off bv offv n L A B

theorem CurveAt.below {w w' : World} {bc b off bv offv n cL cV : Nat} {L A B : Nat → Int} (h : CurveAt w bc b off bv offv n cL cV L A B) (hb : Below w.heap.size w w') : CurveAt w' bc b off bv offv n cL cV L A B :=
  ⟨Nat.lt_of_lt_of_le h.cb hb.size, (hb.cell (p := ⟨bc, 0, none⟩) h.cb).trans h.c0, (hb.cell (p := ⟨bc, 1, none⟩) h.cb).trans h.c1, h.pts.below hb⟩
theorem CurveAt.gw {w : World} {bc b off bv offv n cL cV : Nat} {L A B : Nat → Int} (h : CurveAt w bc b off bv offv n cL cV L A B) (x : Grew) : CurveAt (Go.gw w x) bc b off bv offv n cL cV L A B := h.below (below_gw w x)

theorem Good.den {n : Nat} {L A B : Nat → Int} (g : Good n L A B) {x : Int} (h0 : 0 ≤ x) (h1 : x ≤ 10000) : 1 ≤ lineDen L n x ∧ lineDen L n x ≤ 10000 := by
  obtain ⟨s1, s2, s3⟩ := g.seg h0 h1
  have i1 := g.inc _ s1
  have r1 := g.range _ s1
  have r0 := g.range (segI L n x) (by omega)
  unfold lineDen; omega

/-- a line's value times its denominator, as a mean of two ends -/
theorem line_mean {e f d u : Int} : e * d + (f - e) * u = e * (d - u) + f * u := by
  rw [Int.mul_sub, Int.sub_mul]; omega

theorem lineNum_nonneg {n : Nat} {L A B E : Nat → Int} (g : Good n L A B) (hE : ∀ i, i < n → 0 ≤ E i ∧ E i ≤ 10000) {x : Int} (h0 : 0 ≤ x) (h1 : x ≤ 10000) : 0 ≤ lineNum L E n x ∧ lineNum L E n x ≤ 10000 * lineDen L n x := by
  obtain ⟨s1, s2, s3⟩ := g.seg h0 h1
  have e1 := hE _ s1
  have e0 := hE (segI L n x) (by omega)
  unfold lineNum
  rw [line_mean]
  have hd : 0 ≤ lineDen L n x - (x - L (segI L n x)) := by unfold lineDen; omega
  have hu : 0 ≤ x - L (segI L n x) := by omega
  have a1 := Int.mul_nonneg e0.1 hd
  have a2 := Int.mul_nonneg e1.1 hu
  have b1 : E (segI L n x) * (lineDen L n x - (x - L (segI L n x))) ≤ 10000 * (lineDen L n x - (x - L (segI L n x))) := Int.mul_le_mul_of_nonneg_right e0.2 hd
  have b2 : E (segI L n x + 1) * (x - L (segI L n x)) ≤ 10000 * (x - L (segI L n x)) := Int.mul_le_mul_of_nonneg_right e1.2 hu
  omega

def vapLo (L A : Nat → Int) (n : Nat) (x : Int) : Int := lineNum L A n x / lineDen L n x
def vapHi (L B : Nat → Int) (n : Nat) (x : Int) : Int := (lineNum L B n x + lineDen L n x - 1) / lineDen L n x

theorem Good.vapLo_range {n : Nat} {L A B : Nat → Int} (g : Good n L A B) {x : Int} (h0 : 0 ≤ x) (h1 : x ≤ 10000) : 0 ≤ vapLo L A n x ∧ vapLo L A n x ≤ 10000 := by
  have d := g.den h0 h1
  have m := lineNum_nonneg g (fun i hi => ⟨(g.range i hi).2.2.1, (g.range i hi).2.2.2.1⟩) h0 h1 (E := A)
  unfold vapLo
  exact ⟨Int.ediv_nonneg m.1 (by omega), by have := Int.ediv_le_ediv (show 0 < lineDen L n x by omega) m.2; rwa [Int.mul_ediv_cancel _ (by omega)] at this⟩
theorem Good.vapHi_range {n : Nat} {L A B : Nat → Int} (g : Good n L A B) {x : Int} (h0 : 0 ≤ x) (h1 : x ≤ 10000) : 0 ≤ vapHi L B n x ∧ vapHi L B n x ≤ 10000 := by
  have d := g.den h0 h1
  have m := lineNum_nonneg g (fun i hi => ⟨(g.range i hi).2.2.2.2.1, (g.range i hi).2.2.2.2.2⟩) h0 h1 (E := B)
  unfold vapHi
  refine ⟨Int.ediv_nonneg (by omega) (by omega), ?_⟩
  have h2 : lineNum L B n x + lineDen L n x - 1 < 10001 * lineDen L n x := by omega
  have := Int.ediv_lt_of_lt_mul (by omega) h2
  omega
end Go.Proofs.Ytnmldophadanbaa
