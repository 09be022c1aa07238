/- How the arguments of a law read, over any program. No conditions beyond each theorem's own. -/
import Derived.Test.YtfefmgadfklgmaaGz
import Derived.WalkKit
import Derived.ProofKit
import Derived.Below
import Derived.ChangeSame
import Derived.ChangeSlices
import Derived.Deep.Slices
set_option linter.unusedVariables false
set_option linter.unusedSimpArgs false
set_option linter.unusedSectionVars false
set_option linter.constructorNameAsVariable false
namespace Go.Proofs.Ytfefmgadfklgmaa.L4
open Go.ChangeShapes Go.WideShapes Go.ChangeAt Go.RowKit Go.Deep

section
variable {H : Type} {enc : TypeId × Value → H} {P : Program}
/-! ### How arguments read -/
variable {w : World} {base : Nat} {spare : Nat → Bool} {held : Bool}

/-- a curve as it came in -/
structure CurveIn (w : World) (aL aV : Option Addr) (n m cL cV : Nat) (L A B : Nat → Int) : Prop where
  nc : n ≤ cL
  nm : cL ≤ maxLen
  mc : m ≤ cV
  mm : cV ≤ maxLen
  ls : IntsAt w aL n L
  vs : SpansAt w aV m A B
  rl : ∀ i, i < n → In64 (L i)
  rv : ∀ i, i < m → In64 (A i) ∧ In64 (B i)

theorem rd_curve {tI tS tL tV tC : TypeId} {f0 f1 g0 g1 : Field} (hI : P.underlying tI = some (.int .i64)) (kI : P.cellsOf tI = 1) (hS : P.underlying tS = some (.struct #[f0, f1])) (kS : P.cellsOf tS = 2) (hf0 : f0.type = tI ∧ f0.offset = 0) (hf1 : f1.type = tI ∧ f1.offset = 1)
    (hL : P.underlying tL = some (.slice tI)) (kL : P.cellsOf tL = 1) (hV : P.underlying tV = some (.slice tS)) (kV : P.cellsOf tV = 1) (hC : P.underlying tC = some (.struct #[g0, g1])) (kC : P.cellsOf tC = 2) (hg0 : g0.type = tL ∧ g0.offset = 0) (hg1 : g1.type = tV ∧ g1.offset = 1) {v : Value} {d : DataW H} {ps : List MemPlace}
    (hv : Value.okWide P w .any base tC v) (h : DataW.Trod enc P w 0 spare held tC v d ps) :
    ∃ aL aV n m cL cV L A B, v = .agg #[.slice aL n cL, .slice aV m cV] ∧ CurveIn w aL aV n m cL cV L A B := by
  obtain ⟨l, rfl, hl⟩ := agg_of hC hv
  obtain ⟨n, hn⟩ := h
  rw [hl] at hn
  obtain ⟨xs, n', _, _, hl, hxl, hf⟩ := DataW.trod_struct hC hn
  have hl2 : l.length = 2 := hl.trans kC
  match l, hl2, xs, hxl with
  | [c0, c1], _, [y0, y1], _ =>
    have h0 := hf 0 g0 rfl
    have h1 := hf 1 g1 rfl
    rw [hg0.1, hg0.2, kL] at h0
    rw [hg1.1, hg1.2, kV] at h1
    obtain ⟨aL, n1, cL, L, rfl, q1, q2, q3, q4⟩ := rd_nums' hL hI kI (h0 : DataW.trod _ _ _ _ _ _ _ _ [c0] = some y0)
    obtain ⟨aV, m1, cV, A, B, rfl, p1, p2, p3, p4⟩ := rd_spans' hI kI hS kS hf0 hf1 hV (h1 : DataW.trod _ _ _ _ _ _ _ _ [c1] = some y1)
    exact ⟨aL, aV, n1, m1, cL, cV, L, A, B, rfl, ⟨q1, q2, p1, p2, q3, p3, fun i hi => in64_of (q4 i hi), p4⟩⟩
end
end Go.Proofs.Ytfefmgadfklgmaa.L4
