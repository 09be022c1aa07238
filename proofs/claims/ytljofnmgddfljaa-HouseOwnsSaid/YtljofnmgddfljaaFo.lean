/- How a list of measurements reads. No conditions beyond each theorem's own. -/
import Derived.Test.YtljofnmgddfljaaCf
import Derived.Test.YtljofnmgddfljaaFm
set_option linter.unusedVariables false
set_option linter.unusedSimpArgs false
set_option linter.unusedSectionVars false
set_option linter.constructorNameAsVariable false
namespace Go.Proofs.Ytljofnmgddfljaa
open Go.ChangeShapes Go.WideShapes Go.ChangeAt Go.RowKit Go.Deep

section
variable {H : Type} {enc : TypeId × Value → H} {P : Program} {w : World} {base : Nat} {spare : Nat → Bool} {held : Bool}

theorem rd_regs {tI tS tP tL : TypeId} {f0 f1 g0 g1 g2 : Field} (hI : P.underlying tI = some (.int .i64)) (kI : P.cellsOf tI = 1) (hS : P.underlying tS = some (.struct #[f0, f1])) (kS : P.cellsOf tS = 2) (hf0 : f0.type = tI ∧ f0.offset = 0) (hf1 : f1.type = tI ∧ f1.offset = 1)
    (hP : P.underlying tP = some (.struct #[g0, g1, g2])) (kP : P.cellsOf tP = 5) (hg0 : g0.type = tI ∧ g0.offset = 0) (hg1 : g1.type = tS ∧ g1.offset = 1) (hg2 : g2.type = tS ∧ g2.offset = 3) (hL : P.underlying tL = some (.slice tP)) {v : Value} {d : DataW H} {ps : List MemPlace}
    (hv : Value.okWide P w .any base tL v) (h : DataW.Trod enc P w 0 spare held tL v d ps) :
    ∃ a n c M, v = .slice a n c ∧ n ≤ c ∧ c ≤ maxLen ∧ RegsAt w a n M := by
  obtain ⟨n, hn⟩ := h
  rw [slice_cells hL hv] at hn
  rcases open_slice hL hn with ⟨hcs, hx⟩ | ⟨a, len, cap, m, n', D, Pl, hcs, _, hl, hm, hmm, hx, hi⟩
  · simp at hcs
    exact ⟨none, 0, 0, fun _ => ⟨0, 0, 0, 0, 0⟩, hcs, Nat.le_refl _, Nat.zero_le _, .inl rfl⟩
  · simp at hcs
    have hlm : len ≤ m := by rw [hmm]; split <;> omega
    have each : ∀ i, ∃ q : Reg, i < m → w.cell? (a.add (i * 5)) = some (.int .i64 q.day) ∧ w.cell? ((a.add (i * 5)).add 1) = some (.int .i64 q.vlo) ∧ w.cell? ((a.add (i * 5)).add 2) = some (.int .i64 q.vhi) ∧ w.cell? ((a.add (i * 5)).add 3) = some (.int .i64 q.slo) ∧ w.cell? ((a.add (i * 5)).add 4) = some (.int .i64 q.shi) := fun i => by
      by_cases him : i < m
      · obtain ⟨cs, h1, h2⟩ := hi i him
        rw [kP] at h1
        obtain ⟨x0, x1, x2, x3, x4, rfl, _⟩ := rd_iss' hI kI hS kS hf0 hf1 hP kP hg0 hg1 hg2 h2
        have hc := (World.cells?_some h1).2.2
        have c0 := hc 0 (by omega)
        have c1 := hc 1 (by omega)
        have c2 := hc 2 (by omega)
        have c3 := hc 3 (by omega)
        have c4 := hc 4 (by omega)
        exact ⟨⟨x0, x1, x2, x3, x4⟩, fun _ => ⟨by simpa [Addr.add] using c0, by simpa using c1, by simpa using c2, by simpa using c3, by simpa using c4⟩⟩
      · exact ⟨⟨0, 0, 0, 0, 0⟩, fun h => absurd h him⟩
    obtain ⟨Q, hQ⟩ := Classical.axiomOfChoice each
    clear each
    refine ⟨some a, len, cap, Q, hcs, hl, hm, ?_⟩
    by_cases h0 : len = 0
    · exact .inl h0
    · have c0 := (hQ 0 (by omega)).1
      obtain ⟨b, off, spot⟩ := a
      have hs : spot = none := by simpa [Addr.add] using World.cell?_spot c0
      subst hs
      refine .inr ⟨b, off, rfl, by simpa [Addr.add] using World.block_lt_of_cell? w _ c0, fun i hi => ?_⟩
      obtain ⟨q0, q1, q2, q3, q4⟩ := hQ i (by omega)
      rw [WideShapes.add_plain] at q0 q1 q2 q3 q4
      rw [WideShapes.add_plain] at q1 q2 q3 q4
      exact ⟨q0, q1, q2, q3, q4⟩
end
end Go.Proofs.Ytljofnmgddfljaa
