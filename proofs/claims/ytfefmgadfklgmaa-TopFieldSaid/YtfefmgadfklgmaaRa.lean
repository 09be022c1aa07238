/- How the arguments of the laws read: mashes, vats, yeasts, lists of spans. No conditions beyond each theorem's own. -/
import Derived.Test.YtfefmgadfklgmaaAd
import Derived.Test.YtfefmgadfklgmaaAe
import Derived.Test.YtfefmgadfklgmaaBg
import Derived.Test.YtfefmgadfklgmaaBd
import Derived.Laws.IdiomArrays
set_option linter.unusedVariables false
set_option linter.unusedSimpArgs false
set_option linter.unusedSectionVars false
set_option linter.constructorNameAsVariable false
namespace Go.Proofs.Ytfefmgadfklgmaa
open Go.ChangeShapes Go.WideShapes Go.ChangeAt Go.RowKit Go.Deep

section
variable {H : Type} {enc : TypeId × Value → H} {P : Program} {w : World} {base : Nat} {spare : Nat → Bool} {held : Bool}

theorem rd_mash {tI tS tP : TypeId} {f0 f1 g0 g1 g2 g3 : Field} (hI : P.underlying tI = some (.int .i64)) (kI : P.cellsOf tI = 1) (hS : P.underlying tS = some (.struct #[f0, f1])) (kS : P.cellsOf tS = 2) (hf0 : f0.type = tI ∧ f0.offset = 0) (hf1 : f1.type = tI ∧ f1.offset = 1) (hP : P.underlying tP = some (.struct #[g0, g1, g2, g3])) (kP : P.cellsOf tP = 6) (hg0 : g0.type = tI ∧ g0.offset = 0) (hg1 : g1.type = tI ∧ g1.offset = 1) (hg2 : g2.type = tS ∧ g2.offset = 2) (hg3 : g3.type = tS ∧ g3.offset = 4) {v : Value} {d : DataW H} {ps : List MemPlace}
    (hv : Value.okWide P w .any base tP v) (h : DataW.Trod enc P w 0 spare held tP v d ps) : ∃ m : Msh, v = m.val := by
  obtain ⟨l, rfl, hl⟩ := agg_of hP hv
  obtain ⟨n, hn⟩ := h
  rw [hl] at hn
  obtain ⟨xs, n', _, _, hl, hxl, hf⟩ := DataW.trod_struct hP hn
  have hl2 : l.length = 6 := hl.trans kP
  match l, hl2, xs, hxl with
  | [c0, c1, c2, c3, c4, c5], _, [y0, y1, y2, y3], _ =>
    have h0 := hf 0 g0 rfl
    rw [hg0.1, hg0.2, kI] at h0
    have h1 := hf 1 g1 rfl
    rw [hg1.1, hg1.2, kI] at h1
    have h2 := hf 2 g2 rfl
    rw [hg2.1, hg2.2, kS] at h2
    have h3 := hf 3 g3 rfl
    rw [hg3.1, hg3.2, kS] at h3
    obtain ⟨z0, e0, _, w0⟩ := DataW.trod_int hI (h0 : _ = some y0)
    obtain ⟨z1, e1, _, w1⟩ := DataW.trod_int hI (h1 : _ = some y1)
    obtain ⟨a2, b2, e2, r2, q2⟩ := rd_span' hI kI hS kS hf0 hf1 (h2 : _ = some y2)
    obtain ⟨a3, b3, e3, r3, q3⟩ := rd_span' hI kI hS kS hf0 hf1 (h3 : _ = some y3)
    simp at e0 e1 e2 e3
    exact ⟨⟨z0, z1, a2, b2, a3, b3⟩, by rw [e0, e1, e2.1, e2.2, e3.1, e3.2]; rfl⟩
theorem rd_yeast {tI tS tLI tLS tP : TypeId} {f0 f1 g0 g1 g2 g3 g4 : Field} (hI : P.underlying tI = some (.int .i64)) (kI : P.cellsOf tI = 1) (hS : P.underlying tS = some (.struct #[f0, f1])) (kS : P.cellsOf tS = 2) (hf0 : f0.type = tI ∧ f0.offset = 0) (hf1 : f1.type = tI ∧ f1.offset = 1) (hLI : P.underlying tLI = some (.slice tI)) (kLI : P.cellsOf tLI = 1) (hLS : P.underlying tLS = some (.slice tS)) (kLS : P.cellsOf tLS = 1) (hP : P.underlying tP = some (.struct #[g0, g1, g2, g3, g4])) (kP : P.cellsOf tP = 8) (hg0 : g0.type = tLI ∧ g0.offset = 0) (hg1 : g1.type = tLS ∧ g1.offset = 1) (hg2 : g2.type = tS ∧ g2.offset = 2) (hg3 : g3.type = tS ∧ g3.offset = 4) (hg4 : g4.type = tS ∧ g4.offset = 6) {v : Value} {d : DataW H} {ps : List MemPlace}
    (hv : Value.okWide P w .any base tP v) (h : DataW.Trod enc P w 0 spare held tP v d ps) : ∃ y : Yst, v = y.val ∧ y.In w ∧ y.nT ≤ maxLen ∧ y.nR ≤ y.cR ∧ y.cR ≤ maxLen := by
  obtain ⟨l, rfl, hl⟩ := agg_of hP hv
  obtain ⟨n, hn⟩ := h
  rw [hl] at hn
  obtain ⟨xs, n', _, _, hl, hxl, hf⟩ := DataW.trod_struct hP hn
  have hl2 : l.length = 8 := hl.trans kP
  match l, hl2, xs, hxl with
  | [c0, c1, c2, c3, c4, c5, c6, c7], _, [y0, y1, y2, y3, y4], _ =>
    have h0 := hf 0 g0 rfl
    rw [hg0.1, hg0.2, kLI] at h0
    have h1 := hf 1 g1 rfl
    rw [hg1.1, hg1.2, kLS] at h1
    have h2 := hf 2 g2 rfl
    rw [hg2.1, hg2.2, kS] at h2
    have h3 := hf 3 g3 rfl
    rw [hg3.1, hg3.2, kS] at h3
    have h4 := hf 4 g4 rfl
    rw [hg4.1, hg4.2, kS] at h4
    obtain ⟨aT, nT, cT, LT, rfl, p0a, p0b, p0c, p0d⟩ := rd_nums' hLI hI kI (h0 : DataW.trod _ _ _ _ _ _ _ _ [c0] = some y0)
    obtain ⟨aR, nR, cR, AR, BR, rfl, p1a, p1b, p1c, p1d⟩ := rd_spans' hI kI hS kS hf0 hf1 hLS (h1 : DataW.trod _ _ _ _ _ _ _ _ [c1] = some y1)
    obtain ⟨a2, b2, e2, r2, q2⟩ := rd_span' hI kI hS kS hf0 hf1 (h2 : _ = some y2)
    obtain ⟨a3, b3, e3, r3, q3⟩ := rd_span' hI kI hS kS hf0 hf1 (h3 : _ = some y3)
    obtain ⟨a4, b4, e4, r4, q4⟩ := rd_span' hI kI hS kS hf0 hf1 (h4 : _ = some y4)
    simp at e2 e3 e4
    exact ⟨⟨aT, nT, cT, aR, nR, cR, LT, AR, BR, a2, b2, a3, b3, a4, b4⟩, by rw [e2.1, e2.2, e3.1, e3.2, e4.1, e4.2]; rfl, ⟨p0c, p1c⟩, Nat.le_trans p0a p0b, p1a, p1b⟩
end
end Go.Proofs.Ytfefmgadfklgmaa
