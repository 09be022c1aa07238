/- TopField holds: for every input the law returns true, and the arguments read as they did. No conditions. -/
import Derived.Test.YtfefmgadfklgmaaRows
import Derived.Test.YtfefmgadfklgmaaAd
import Derived.Test.YtfefmgadfklgmaaAe
import Derived.Test.YtfefmgadfklgmaaAj
import Derived.Test.YtfefmgadfklgmaaRa
import Derived.Test.YtfefmgadfklgmaaFb
import Derived.Test.YtfefmgadfklgmaaQc
import Derived.OpenShut
set_option linter.unusedVariables false
set_option linter.unusedSimpArgs false
set_option linter.unusedSectionVars false
set_option linter.constructorNameAsVariable false
namespace Go.Proofs.Ytfefmgadfklgmaa
open Go.ChangeShapes Go.WideShapes Go.ChangeAt Go.RowKit Go.Deep

section
variable {H : Type} {enc : TypeId × Value → H} {P : Program} {w : World} {base : Nat} {spare : Nat → Bool} {held : Bool}
theorem rd_step' {tI tS : TypeId} {f0 f1 f2 : Field} (hI : P.underlying tI = some (.int .i64)) (kI : P.cellsOf tI = 1) (hS : P.underlying tS = some (.struct #[f0, f1, f2])) (kS : P.cellsOf tS = 3) (hf0 : f0.type = tI ∧ f0.offset = 0) (hf1 : f1.type = tI ∧ f1.offset = 1) (hf2 : f2.type = tI ∧ f2.offset = 2) {n : Nat} {cs : List Value} {x : DataW H × List MemPlace} (h : DataW.trod enc P w 0 spare held n tS cs = some x) : ∃ a b c, cs = [.int .i64 a, .int .i64 b, .int .i64 c] := by
  obtain ⟨xs, n', _, _, hl, hxl, hf⟩ := DataW.trod_struct hS h
  have hl2 : cs.length = 3 := hl.trans kS
  match cs, hl2, xs, hxl with
  | [c0, c1, c2], _, [y0, y1, y2], _ =>
    have h0 := hf 0 f0 rfl
    have h1 := hf 1 f1 rfl
    have h2 := hf 2 f2 rfl
    rw [hf0.1, hf0.2, kI] at h0
    rw [hf1.1, hf1.2, kI] at h1
    rw [hf2.1, hf2.2, kI] at h2
    obtain ⟨a, e0, _, _⟩ := DataW.trod_int hI (h0 : _ = some y0)
    obtain ⟨b, e1, _, _⟩ := DataW.trod_int hI (h1 : _ = some y1)
    obtain ⟨c, e2, _, _⟩ := DataW.trod_int hI (h2 : _ = some y2)
    simp at e0 e1 e2
    exact ⟨a, b, c, by rw [e0, e1, e2]⟩
theorem rd_steps' {tI tS tL : TypeId} {f0 f1 f2 : Field} (hI : P.underlying tI = some (.int .i64)) (kI : P.cellsOf tI = 1) (hS : P.underlying tS = some (.struct #[f0, f1, f2])) (kS : P.cellsOf tS = 3) (hf0 : f0.type = tI ∧ f0.offset = 0) (hf1 : f1.type = tI ∧ f1.offset = 1) (hf2 : f2.type = tI ∧ f2.offset = 2) (hL : P.underlying tL = some (.slice tS)) {n : Nat} {v : Value} {x : DataW H × List MemPlace} (h : DataW.trod enc P w 0 spare held n tL [v] = some x) :
    ∃ a n c K A B, v = .slice a n c ∧ n ≤ c ∧ c ≤ maxLen ∧ L2.StepsAt w a n K A B := by
  rcases open_slice hL h with ⟨hcs, hx⟩ | ⟨a, len, cap, m, n', D, Pl, hcs, _, hl, hm, hmm, hx, hi⟩
  · simp at hcs
    exact ⟨none, 0, 0, fun _ => 0, fun _ => 0, fun _ => 0, hcs, Nat.le_refl _, Nat.zero_le _, .inl rfl⟩
  · simp at hcs
    have hlm : len ≤ m := by rw [hmm]; split <;> omega
    have each : ∀ i, ∃ q : Int × Int × Int, i < m → w.cell? (a.add (i * 3)) = some (.int .i64 q.1) ∧ w.cell? ((a.add (i * 3)).add 1) = some (.int .i64 q.2.1) ∧ w.cell? ((a.add (i * 3)).add 2) = some (.int .i64 q.2.2) := fun i => by
      by_cases him : i < m
      · obtain ⟨cs, h1, h2⟩ := hi i him
        rw [kS] at h1
        obtain ⟨x0, x1, x2, rfl⟩ := rd_step' hI kI hS kS hf0 hf1 hf2 h2
        have hc := (World.cells?_some h1).2.2
        have c0 := hc 0 (by omega)
        have c1 := hc 1 (by omega)
        have c2 := hc 2 (by omega)
        exact ⟨(x0, x1, x2), fun _ => ⟨by simpa [Addr.add] using c0, by simpa using c1, by simpa using c2⟩⟩
      · exact ⟨(0, 0, 0), fun h => absurd h him⟩
    obtain ⟨Q, hQ⟩ := Classical.axiomOfChoice each
    clear each
    refine ⟨some a, len, cap, fun i => (Q i).1, fun i => (Q i).2.1, fun i => (Q i).2.2, hcs, hl, hm, ?_⟩
    by_cases h0 : len = 0
    · exact .inl h0
    · have c0 := (hQ 0 (by omega)).1
      obtain ⟨b, off, spot⟩ := a
      have hs : spot = none := by simpa [Addr.add] using World.cell?_spot c0
      subst hs
      refine .inr ⟨b, off, rfl, by simpa [Addr.add] using World.block_lt_of_cell? w _ c0, fun i hi => ?_⟩
      obtain ⟨q0, q1, q2⟩ := hQ i (by omega)
      rw [WideShapes.add_plain] at q0 q1 q2
      rw [WideShapes.add_plain] at q1 q2
      exact ⟨q0, q1, q2⟩
theorem rd_malt' {tI tS tP : TypeId} {f0 f1 : Field} (hI : P.underlying tI = some (.int .i64)) (kI : P.cellsOf tI = 1) (hS : P.underlying tS = some (.struct #[f0, f1])) (kS : P.cellsOf tS = 2) (hf0 : f0.type = tI ∧ f0.offset = 0) (hf1 : f1.type = tI ∧ f1.offset = 1) {g0 g1 g2 : Field} (hP : P.underlying tP = some (.struct #[g0, g1, g2])) (kP : P.cellsOf tP = 6) (hg0 : g0.type = tS ∧ g0.offset = 0) (hg1 : g1.type = tS ∧ g1.offset = 2) (hg2 : g2.type = tS ∧ g2.offset = 4) {n : Nat} {cs : List Value} {x : DataW H × List MemPlace} (h : DataW.trod enc P w 0 spare held n tP cs = some x) : ∃ a b c d e f, cs = [.int .i64 a, .int .i64 b, .int .i64 c, .int .i64 d, .int .i64 e, .int .i64 f] := by
  obtain ⟨xs, n', _, _, hl, hxl, hf⟩ := DataW.trod_struct hP h
  have hl2 : cs.length = 6 := hl.trans kP
  match cs, hl2, xs, hxl with
  | [c0, c1, c2, c3, c4, c5], _, [y0, y1, y2], _ =>
    have h0 := hf 0 g0 rfl
    have h1 := hf 1 g1 rfl
    have h2 := hf 2 g2 rfl
    rw [hg0.1, hg0.2, kS] at h0
    rw [hg1.1, hg1.2, kS] at h1
    rw [hg2.1, hg2.2, kS] at h2
    obtain ⟨a0, b0, e0, _, _⟩ := rd_span' hI kI hS kS hf0 hf1 (h0 : _ = some y0)
    obtain ⟨a1, b1, e1, _, _⟩ := rd_span' hI kI hS kS hf0 hf1 (h1 : _ = some y1)
    obtain ⟨a2, b2, e2, _, _⟩ := rd_span' hI kI hS kS hf0 hf1 (h2 : _ = some y2)
    simp at e0 e1 e2
    exact ⟨a0, b0, a1, b1, a2, b2, by rw [e0.1, e0.2, e1.1, e1.2, e2.1, e2.2]⟩
theorem rd_mash' {tI tS tP : TypeId} {f0 f1 : Field} (hI : P.underlying tI = some (.int .i64)) (kI : P.cellsOf tI = 1) (hS : P.underlying tS = some (.struct #[f0, f1])) (kS : P.cellsOf tS = 2) (hf0 : f0.type = tI ∧ f0.offset = 0) (hf1 : f1.type = tI ∧ f1.offset = 1) {g0 g1 g2 g3 : Field} (hP : P.underlying tP = some (.struct #[g0, g1, g2, g3])) (kP : P.cellsOf tP = 6) (hg0 : g0.type = tI ∧ g0.offset = 0) (hg1 : g1.type = tI ∧ g1.offset = 1) (hg2 : g2.type = tS ∧ g2.offset = 2) (hg3 : g3.type = tS ∧ g3.offset = 4) {n : Nat} {cs : List Value} {x : DataW H × List MemPlace} (h : DataW.trod enc P w 0 spare held n tP cs = some x) : ∃ m : Msh, cs = [.int .i64 m.g, .int .i64 m.w, .int .i64 m.xl, .int .i64 m.xh, .int .i64 m.hl, .int .i64 m.hh] := by
  obtain ⟨xs, n', _, _, hl, hxl, hf⟩ := DataW.trod_struct hP h
  have hl2 : cs.length = 6 := hl.trans kP
  match cs, hl2, xs, hxl with
  | [c0, c1, c2, c3, c4, c5], _, [y0, y1, y2, y3], _ =>
    have h0 := hf 0 g0 rfl
    have h1 := hf 1 g1 rfl
    have h2 := hf 2 g2 rfl
    have h3 := hf 3 g3 rfl
    rw [hg0.1, hg0.2, kI] at h0
    rw [hg1.1, hg1.2, kI] at h1
    rw [hg2.1, hg2.2, kS] at h2
    rw [hg3.1, hg3.2, kS] at h3
    obtain ⟨z0, e0, _, _⟩ := DataW.trod_int hI (h0 : _ = some y0)
    obtain ⟨z1, e1, _, _⟩ := DataW.trod_int hI (h1 : _ = some y1)
    obtain ⟨a2, b2, e2, _, _⟩ := rd_span' hI kI hS kS hf0 hf1 (h2 : _ = some y2)
    obtain ⟨a3, b3, e3, _, _⟩ := rd_span' hI kI hS kS hf0 hf1 (h3 : _ = some y3)
    simp at e0 e1 e2 e3
    exact ⟨⟨z0, z1, a2, b2, a3, b3⟩, by rw [e0, e1, e2.1, e2.2, e3.1, e3.2]⟩
theorem rd_yeast' {tI tS tP : TypeId} {f0 f1 : Field} (hI : P.underlying tI = some (.int .i64)) (kI : P.cellsOf tI = 1) (hS : P.underlying tS = some (.struct #[f0, f1])) (kS : P.cellsOf tS = 2) (hf0 : f0.type = tI ∧ f0.offset = 0) (hf1 : f1.type = tI ∧ f1.offset = 1) {tLI tLS : TypeId} {g0 g1 g2 g3 g4 : Field} (hLI : P.underlying tLI = some (.slice tI)) (kLI : P.cellsOf tLI = 1) (hLS : P.underlying tLS = some (.slice tS)) (kLS : P.cellsOf tLS = 1) (hP : P.underlying tP = some (.struct #[g0, g1, g2, g3, g4])) (kP : P.cellsOf tP = 8) (hg0 : g0.type = tLI ∧ g0.offset = 0) (hg1 : g1.type = tLS ∧ g1.offset = 1) (hg2 : g2.type = tS ∧ g2.offset = 2) (hg3 : g3.type = tS ∧ g3.offset = 4) (hg4 : g4.type = tS ∧ g4.offset = 6) {n : Nat} {cs : List Value} {x : DataW H × List MemPlace} (h : DataW.trod enc P w 0 spare held n tP cs = some x) : ∃ y : Yst, cs = [.slice y.aT y.nT y.cT, .slice y.aR y.nR y.cR, .int .i64 y.sl, .int .i64 y.sh, .int .i64 y.gl, .int .i64 y.gh, .int .i64 y.hl, .int .i64 y.hh] ∧ y.In w ∧ y.Fits := by
  obtain ⟨xs, n', _, _, hl, hxl, hf⟩ := DataW.trod_struct hP h
  have hl2 : cs.length = 8 := hl.trans kP
  match cs, hl2, xs, hxl with
  | [c0, c1, c2, c3, c4, c5, c6, c7], _, [y0, y1, y2, y3, y4], _ =>
    have h0 := hf 0 g0 rfl
    rw [hg0.1, hg0.2, kLI] at h0
    have h1 := hf 1 g1 rfl
    rw [hg1.1, hg1.2, kLS] at h1
    have h2 := hf 2 g2 rfl
    rw [hg2.1, hg2.2, kS] at h2
    have h3 := hf 3 g3 rfl
    rw [hg3.1, hg3.2, kS] at h3
    have h4 := hf 4 g4 rfl
    rw [hg4.1, hg4.2, kS] at h4
    obtain ⟨aT, nT, cT, LT, rfl, p0a, p0b, p0c, p0d⟩ := rd_nums' hLI hI kI (h0 : DataW.trod _ _ _ _ _ _ _ _ [c0] = some y0)
    obtain ⟨aR, nR, cR, AR, BR, rfl, p1a, p1b, p1c, p1d⟩ := rd_spans' hI kI hS kS hf0 hf1 hLS (h1 : DataW.trod _ _ _ _ _ _ _ _ [c1] = some y1)
    obtain ⟨a2, b2, e2, _, _⟩ := rd_span' hI kI hS kS hf0 hf1 (h2 : _ = some y2)
    obtain ⟨a3, b3, e3, _, _⟩ := rd_span' hI kI hS kS hf0 hf1 (h3 : _ = some y3)
    obtain ⟨a4, b4, e4, _, _⟩ := rd_span' hI kI hS kS hf0 hf1 (h4 : _ = some y4)
    simp at e2 e3 e4
    unfold maxLen at *
    exact ⟨⟨aT, nT, cT, aR, nR, cR, LT, AR, BR, a2, b2, a3, b3, a4, b4⟩, by rw [e2.1, e2.2, e3.1, e3.2, e4.1, e4.2], ⟨p0c, p1c⟩, ⟨by show nT ≤ _; omega, by show nR ≤ _; omega, p1a, by show cR ≤ _; omega⟩⟩
theorem rd_curve' {tI tS tP : TypeId} {f0 f1 : Field} (hI : P.underlying tI = some (.int .i64)) (kI : P.cellsOf tI = 1) (hS : P.underlying tS = some (.struct #[f0, f1])) (kS : P.cellsOf tS = 2) (hf0 : f0.type = tI ∧ f0.offset = 0) (hf1 : f1.type = tI ∧ f1.offset = 1) {tLI tLS : TypeId} {g0 g1 : Field} (hLI : P.underlying tLI = some (.slice tI)) (kLI : P.cellsOf tLI = 1) (hLS : P.underlying tLS = some (.slice tS)) (kLS : P.cellsOf tLS = 1) (hP : P.underlying tP = some (.struct #[g0, g1])) (kP : P.cellsOf tP = 2) (hg0 : g0.type = tLI ∧ g0.offset = 0) (hg1 : g1.type = tLS ∧ g1.offset = 1) {n : Nat} {cs : List Value} {x : DataW H × List MemPlace} (h : DataW.trod enc P w 0 spare held n tP cs = some x) : ∃ (c : L4.Crv) (aL aV : Option Addr) (mV cL cV : Nat), cs = [.slice aL c.n cL, .slice aV mV cV] ∧ IntsAt w aL c.n c.L ∧ SpansAt w aV mV c.A c.B := by
  obtain ⟨xs, n', _, _, hl, hxl, hf⟩ := DataW.trod_struct hP h
  have hl2 : cs.length = 2 := hl.trans kP
  match cs, hl2, xs, hxl with
  | [c0, c1], _, [y0, y1], _ =>
    have h0 := hf 0 g0 rfl
    have h1 := hf 1 g1 rfl
    rw [hg0.1, hg0.2, kLI] at h0
    rw [hg1.1, hg1.2, kLS] at h1
    obtain ⟨aL, n1, cL, L, rfl, q1, q2, q3, q4⟩ := rd_nums' hLI hI kI (h0 : DataW.trod _ _ _ _ _ _ _ _ [c0] = some y0)
    obtain ⟨aV, m1, cV, A, B, rfl, p1, p2, p3, p4⟩ := rd_spans' hI kI hS kS hf0 hf1 hLS (h1 : DataW.trod _ _ _ _ _ _ _ _ [c1] = some y1)
    exact ⟨⟨n1, L, A, B⟩, aL, aV, m1, cL, cV, rfl, q3, p3⟩
end

set_option maxRecDepth 100000 in
theorem rd_field {H : Type} {enc : TypeId × Value → H} {w : World} {base : Nat} {spare : Nat → Bool} {held : Bool} {v : Value} {d : DataW H} {ps : List MemPlace} (hv : Value.okWide Try.prog w .any base 36 v) (h : DataW.Trod enc Try.prog w 0 spare held 36 v d ps) :
    ∃ (dl dh wl wh pl ph : Int) (aS : Option Addr) (nS cS : Nat) (K A Bs : Nat → Int) (m : Msh) (y : Yst) (tl th : Int) (aC : Option Addr) (nC cC : Nat) (FF GG : Nat → Int) (c : L4.Crv) (aL aV : Option Addr) (mV cL cV : Nat) (aM : Option Addr) (k cM : Nat) (M : Nat → Int), v = .agg #[.int .i64 dl, .int .i64 dh, .int .i64 wl, .int .i64 wh, .int .i64 pl, .int .i64 ph, .slice aS nS cS, .int .i64 m.g, .int .i64 m.w, .int .i64 m.xl, .int .i64 m.xh, .int .i64 m.hl, .int .i64 m.hh, .slice y.aT y.nT y.cT, .slice y.aR y.nR y.cR, .int .i64 y.sl, .int .i64 y.sh, .int .i64 y.gl, .int .i64 y.gh, .int .i64 y.hl, .int .i64 y.hh, .int .i64 tl, .int .i64 th, .slice aC nC cC, .slice aL c.n cL, .slice aV mV cV, .slice aM k cM] ∧ L2.StepsAt w aS nS K A Bs ∧ y.In w ∧ y.Fits ∧ SpansAt w aC nC FF GG ∧ IntsAt w aL c.n c.L ∧ SpansAt w aV mV c.A c.B ∧ IntsAt w aM k M := by
  obtain ⟨l, rfl, hl⟩ := agg_of Try.underlying36 hv
  obtain ⟨n, hn⟩ := h
  rw [hl] at hn
  obtain ⟨xs, n', _, _, hl, hxl, hf⟩ := DataW.trod_struct Try.underlying36 hn
  have kF : Try.prog.cellsOf 36 = 27 := by kernel_rfl
  have hl2 : l.length = 27 := hl.trans kF
  clear hl
  match l, hl2, xs, hxl with
  | [c0, c1, c2, c3, c4, c5, c6, c7, c8, c9, c10, c11, c12, c13, c14, c15, c16, c17, c18, c19, c20, c21, c22, c23, c24, c25, c26], _, [y0, y1, y2, y3, y4, y5, y6, y7], _ =>
    have h0 : DataW.trod enc Try.prog w 0 spare held n' 25 [c0, c1, c2, c3, c4, c5] = some y0 := hf 0 _ rfl
    have h1 : DataW.trod enc Try.prog w 0 spare held n' 26 [c6] = some y1 := hf 1 _ rfl
    have h2 : DataW.trod enc Try.prog w 0 spare held n' 28 [c7, c8, c9, c10, c11, c12] = some y2 := hf 2 _ rfl
    have h3 : DataW.trod enc Try.prog w 0 spare held n' 32 [c13, c14, c15, c16, c17, c18, c19, c20] = some y3 := hf 3 _ rfl
    have h4 : DataW.trod enc Try.prog w 0 spare held n' 23 [c21, c22] = some y4 := hf 4 _ rfl
    have h5 : DataW.trod enc Try.prog w 0 spare held n' 30 [c23] = some y5 := hf 5 _ rfl
    have h6 : DataW.trod enc Try.prog w 0 spare held n' 34 [c24, c25] = some y6 := hf 6 _ rfl
    have h7 : DataW.trod enc Try.prog w 0 spare held n' 29 [c26] = some y7 := hf 7 _ rfl
    obtain ⟨dl, dh, wl, wh, pl, ph, e0⟩ := rd_malt' Try.underlying3 (by kernel_rfl) Try.underlying23 (by kernel_rfl) ⟨rfl, rfl⟩ ⟨rfl, rfl⟩ Try.underlying25 (by kernel_rfl) ⟨rfl, rfl⟩ ⟨rfl, rfl⟩ ⟨rfl, rfl⟩ h0
    obtain ⟨aS, nS, cS, K, A, Bs, rfl, _, _, q1⟩ := rd_steps' Try.underlying3 (by kernel_rfl) Try.underlying70 (by kernel_rfl) ⟨rfl, rfl⟩ ⟨rfl, rfl⟩ ⟨rfl, rfl⟩ Try.underlying26 h1
    obtain ⟨m, e2⟩ := rd_mash' Try.underlying3 (by kernel_rfl) Try.underlying23 (by kernel_rfl) ⟨rfl, rfl⟩ ⟨rfl, rfl⟩ Try.underlying28 (by kernel_rfl) ⟨rfl, rfl⟩ ⟨rfl, rfl⟩ ⟨rfl, rfl⟩ ⟨rfl, rfl⟩ h2
    obtain ⟨y, e3, q3, r3⟩ := rd_yeast' Try.underlying3 (by kernel_rfl) Try.underlying23 (by kernel_rfl) ⟨rfl, rfl⟩ ⟨rfl, rfl⟩ Try.underlying29 (by kernel_rfl) Try.underlying30 (by kernel_rfl) Try.underlying32 (by kernel_rfl) ⟨rfl, rfl⟩ ⟨rfl, rfl⟩ ⟨rfl, rfl⟩ ⟨rfl, rfl⟩ ⟨rfl, rfl⟩ h3
    obtain ⟨tl, th, e4, _, _⟩ := rd_span' Try.underlying3 (by kernel_rfl) Try.underlying23 (by kernel_rfl) ⟨rfl, rfl⟩ ⟨rfl, rfl⟩ h4
    obtain ⟨aC, nC, cC, FF, GG, rfl, _, _, q5, _⟩ := rd_spans' Try.underlying3 (by kernel_rfl) Try.underlying23 (by kernel_rfl) ⟨rfl, rfl⟩ ⟨rfl, rfl⟩ Try.underlying30 h5
    obtain ⟨c, aL, aV, mV, cL, cV, e6, q6, r6⟩ := rd_curve' Try.underlying3 (by kernel_rfl) Try.underlying23 (by kernel_rfl) ⟨rfl, rfl⟩ ⟨rfl, rfl⟩ Try.underlying29 (by kernel_rfl) Try.underlying30 (by kernel_rfl) Try.underlying34 (by kernel_rfl) ⟨rfl, rfl⟩ ⟨rfl, rfl⟩ h6
    obtain ⟨aM, k, cM, M, rfl, _, _, q7, _⟩ := rd_nums' Try.underlying29 Try.underlying3 (by kernel_rfl) h7
    clear h0 h1 h2 h3 h4 h5 h6 h7 hf hn hv
    simp only [List.cons.injEq, and_true] at e0 e2 e3 e4 e6
    obtain ⟨rfl, rfl, rfl, rfl, rfl, rfl⟩ := e0
    obtain ⟨rfl, rfl, rfl, rfl, rfl, rfl⟩ := e2
    obtain ⟨rfl, rfl, rfl, rfl, rfl, rfl, rfl, rfl⟩ := e3
    obtain ⟨rfl, rfl⟩ := e4
    obtain ⟨rfl, rfl⟩ := e6
    exact ⟨dl, dh, wl, wh, pl, ph, aS, nS, cS, K, A, Bs, m, y, tl, th, aC, nC, cC, FF, GG, c, aL, aV, mV, cL, cV, aM, k, cM, M, rfl, q1, q3, r3, q5, q6, r6, q7⟩

theorem field_law (dl dh wl wh pl ph : Int) (aS : Option Addr) (nS cS : Nat) (K A Bs : Nat → Int) (m : Msh) (y : Yst) (tl th : Int) (aC : Option Addr) (nC cC : Nat) (FF GG : Nat → Int) (c : L4.Crv) (aL aV : Option Addr) (mV cL cV : Nat) (aM : Option Addr) (k cM : Nat) (M : Nat → Int) (by_ : Int) (w : World) (hS : L2.StepsAt w aS nS K A Bs) (hY : y.In w) (hYf : y.Fits) (hC : SpansAt w aC nC FF GG) (hL : IntsAt w aL c.n c.L) (hV : SpansAt w aV mV c.A c.B) (hM : IntsAt w aM k M) (hby : 0 ≤ by_ ∧ by_ ≤ 4294967295) :
    Calls Try.prog 3 #[.agg #[.int .i64 dl, .int .i64 dh, .int .i64 wl, .int .i64 wh, .int .i64 pl, .int .i64 ph, .slice aS nS cS, .int .i64 m.g, .int .i64 m.w, .int .i64 m.xl, .int .i64 m.xh, .int .i64 m.hl, .int .i64 m.hh, .slice y.aT y.nT y.cT, .slice y.aR y.nR y.cR, .int .i64 y.sl, .int .i64 y.sh, .int .i64 y.gl, .int .i64 y.gh, .int .i64 y.hl, .int .i64 y.hh, .int .i64 tl, .int .i64 th, .slice aC nC cC, .slice aL c.n cL, .slice aV mV cV, .slice aM k cM], .int .u32 by_] w fun e w' => e = .returned (.bool true) ∧ Below w.heap.size w w' := by
  by_cases hl : 30 < nS ∨ 30 < nC ∨ 20 < k ∨ 40 < c.n ∨ 40 < mV
  · exact field_long dl dh wl wh pl ph aS nS cS K A Bs m y tl th aC nC cC FF GG c aL aV mV cL cV aM k cM M by_ w hl
  · cases hb : fieldB dl dh wl wh pl ph y c mV with
    | false => exact field_bad dl dh wl wh pl ph aS nS cS K A Bs m y tl th aC nC cC FF GG c aL aV mV cL cV aM k cM M by_ w hY hYf hL hV (by omega) (by omega) (by omega) (by omega) (by omega) hb
    | true => exact field_main dl dh wl wh pl ph aS nS cS K A Bs m y tl th aC nC cC FF GG c aL aV mV cL cV aM k cM M by_ w hS hY hYf hC hL hV hM (by omega) (by omega) (by omega) (by omega) (by omega) hb hby

set_option maxRecDepth 100000 in
theorem field_lifted (os : Os) (started : os.Started) (H : Type) (enc : TypeId × Value → H) :
    ReturnsInHanded {} Try.checked os 3 .any (Rows.topFieldSpec.pre6 enc Try.prog Try.f3 Rows.topFieldRow.domain false) (Rows.topFieldSpec.post enc Try.prog Try.f3 false true false false) := by
  refine returnsInHanded_of_change (C := Try.checked) own started (by kernel_rfl) Try.func3
    (ChangeSpec.witness6 (enc := enc) (C := Try.checked) false ⟨#[], #[.agg #[.int .i64 0, .int .i64 0, .int .i64 0, .int .i64 0, .int .i64 0, .int .i64 0, .slice none 0 0, .int .i64 0, .int .i64 0, .int .i64 0, .int .i64 0, .int .i64 0, .int .i64 0, .slice none 0 0, .slice none 0 0, .int .i64 0, .int .i64 0, .int .i64 0, .int .i64 0, .int .i64 0, .int .i64 0, .int .i64 0, .int .i64 0, .slice none 0 0, .slice none 0 0, .slice none 0 0, .slice none 0 0], .int .u32 0], []⟩ 8 (by kernel_rfl) (by kernel_rfl) (by kernel_rfl) (by kernel_rfl)) ?_
  intro W base args ds gs before hval0 hW _ _
  have hval : ∀ (j : Nat) t v, Try.f3.params[j]? = some t → args[j]? = some v → Value.okWide Try.prog W .any base t v := hval0
  have hW' := hW
  obtain ⟨p, q, hA0, hV, rfl, _, _⟩ := hW
  have hA : DataW.TrodAll enc Try.prog W 0 (fun _ => true) true Try.f3.params.toList args.toList ds p := hA0
  rw [Try.params3] at hA hval
  obtain ⟨v0, vs0, d0, ds0, p0, q0, hargs0, rfl, rfl, h0, r0⟩ := trodAll_cons hA
  obtain ⟨v1, vs1, d1, ds1, p1, q1, hargs1, rfl, rfl, h1, r1⟩ := trodAll_cons r0
  obtain ⟨rfl, rfl, rfl⟩ := trodAll_nil r1
  obtain rfl : args = #[v0, v1] := by cases args; simp_all
  obtain ⟨dl, dh, wl, wh, pl, ph, aS, nS, cS, K, A, Bs, m, y, tl, th, aC, nC, cC, FF, GG, c, aL, aV, mV, cL, cV, aM, k, cM, M, rfl, hS, hY, hYf, hC, hL, hVV, hM⟩ := rd_field (hval 0 _ _ rfl rfl) h0
  obtain ⟨by_, rfl, hb0, hb1⟩ := rd_u32 Try.underlying37 (hval 1 _ _ rfl rfl) h1
  refine (field_law dl dh wl wh pl ph aS nS cS K A Bs m y tl th aC nC cC FF GG c aL aV mV cL cV aM k cM M by_ W hS hY hYf hC hL hVV hM ⟨hb0, hb1⟩).mono fun e W' ⟨he, hb⟩ => ?_
  subst he
  exact ⟨_, rfl, law_post hW' (by kernel_rfl) rfl (by rw [Try.params3]; decide +kernel) rfl hb⟩

theorem field_holds : Rows.TopFieldSaid :=
  OpenClaim.holds_of_wide 3 Try.f3 rfl rfl rfl rfl rfl rfl rfl ⟨rfl, rfl, rfl, rfl, rfl⟩ rfl rfl rfl rfl rfl (by kernel_rfl) Try.func3 (by kernel_rfl)
    (of_decide_eq_true (by kernel_rfl)) (by unfold Func.isWrapper; first | (rw [if_pos (by decide +kernel)]; kernel_rfl) | (rw [if_neg (by decide +kernel)]; exact ⟨rfl, rfl⟩))
    (fun os started H enc _ => field_lifted os started H enc)

#print axioms field_holds
end Go.Proofs.Ytfefmgadfklgmaa
