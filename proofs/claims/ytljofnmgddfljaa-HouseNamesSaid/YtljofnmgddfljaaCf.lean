/- How the arguments of the laws read: climates, contents, stays, measurements. No conditions beyond each theorem's own. -/
import Derived.Test.YtljofnmgddfljaaAd
import Derived.Test.YtljofnmgddfljaaAe
import Derived.Test.YtljofnmgddfljaaCe
import Derived.Laws.IdiomArrays
set_option linter.unusedVariables false
set_option linter.unusedSimpArgs false
set_option linter.unusedSectionVars false
set_option linter.constructorNameAsVariable false
namespace Go.Proofs.Ytljofnmgddfljaa
open Go.ChangeShapes Go.WideShapes Go.ChangeAt Go.RowKit Go.Deep

section
variable {H : Type} {enc : TypeId × Value → H} {P : Program} {w : World} {base : Nat} {spare : Nat → Bool} {held : Bool}

theorem inU16_of {z : Int} (h : (Lit.int .u16 z).wf = true) : 0 ≤ z ∧ z ≤ 65535 := by simpa [Lit.wf, IntKind.min, IntKind.max, IntKind.signed, IntKind.bits] using h
theorem rd_u16 {t : TypeId} {v : Value} {d : DataW H} {ps : List MemPlace} (ht : P.underlying t = some (.int .u16)) (hv : Value.okWide P w .any base t v) (h : DataW.Trod enc P w 0 spare held t v d ps) : ∃ z, v = .int .u16 z ∧ 0 ≤ z ∧ z ≤ 65535 := by
  obtain ⟨z, rfl, _, _, hz⟩ := open_int ht hv h
  exact ⟨z, rfl, inU16_of hz⟩
theorem rd_by4 {tU tB : TypeId} (hU : P.underlying tU = some (.int .u32)) (kU : P.cellsOf tU = 1) (hB : P.underlying tB = some (.array 4 tU)) (kB : P.cellsOf tB = 4) {v : Value} {d : DataW H} {ps : List MemPlace}
    (hv : Value.okWide P w .any base tB v) (h : DataW.Trod enc P w 0 spare held tB v d ps) : ∃ a b c e, v = .agg #[.int .u32 a, .int .u32 b, .int .u32 c, .int .u32 e] ∧ (0 ≤ a ∧ a ≤ 4294967295) ∧ (0 ≤ b ∧ b ≤ 4294967295) ∧ (0 ≤ c ∧ c ≤ 4294967295) ∧ 0 ≤ e ∧ e ≤ 4294967295 := by
  obtain ⟨cs, rfl, hsz, _⟩ : ∃ cs, v = .agg cs ∧ cs.size = P.cellsOf tB ∧ Row.okWide P w .any base tB cs := by simpa [Value.okWide, hB] using hv
  rw [kB] at hsz
  obtain ⟨l⟩ := cs
  match l, (show l.length = 4 from hsz) with
  | [c0, c1, c2, c3], _ =>
    obtain ⟨fuel, hf⟩ := h
    obtain ⟨y0, y1, y2, y3, m, hx, h0, h1, h2, h3⟩ := trod_array4 hB kU (show DataW.trod enc P w 0 spare held fuel tB [c0, c1, c2, c3] = _ from hf)
    obtain ⟨a, e0, _, w0⟩ := DataW.trod_int hU h0
    obtain ⟨b, e1, _, w1⟩ := DataW.trod_int hU h1
    obtain ⟨c, e2, _, w2⟩ := DataW.trod_int hU h2
    obtain ⟨e, e3, _, w3⟩ := DataW.trod_int hU h3
    simp at e0 e1 e2 e3
    exact ⟨a, b, c, e, by rw [e0, e1, e2, e3], inU32_of w0, inU32_of w1, inU32_of w2, inU32_of w3⟩
/-- a number and two spans -/
theorem rd_iss' {tI tS tP : TypeId} {f0 f1 g0 g1 g2 : Field} (hI : P.underlying tI = some (.int .i64)) (kI : P.cellsOf tI = 1) (hS : P.underlying tS = some (.struct #[f0, f1])) (kS : P.cellsOf tS = 2) (hf0 : f0.type = tI ∧ f0.offset = 0) (hf1 : f1.type = tI ∧ f1.offset = 1)
    (hP : P.underlying tP = some (.struct #[g0, g1, g2])) (kP : P.cellsOf tP = 5) (hg0 : g0.type = tI ∧ g0.offset = 0) (hg1 : g1.type = tS ∧ g1.offset = 1) (hg2 : g2.type = tS ∧ g2.offset = 3) {n : Nat} {cs : List Value} {x : DataW H × List MemPlace}
    (h : DataW.trod enc P w 0 spare held n tP cs = some x) : ∃ a b c d e, cs = [.int .i64 a, .int .i64 b, .int .i64 c, .int .i64 d, .int .i64 e] ∧ In64 a ∧ (In64 b ∧ In64 c) ∧ In64 d ∧ In64 e := by
  obtain ⟨xs, n', _, _, hl, hxl, hf⟩ := DataW.trod_struct hP h
  have hl2 : cs.length = 5 := hl.trans kP
  match cs, hl2, xs, hxl with
  | [c0, c1, c2, c3, c4], _, [y0, y1, y2], _ =>
    have h0 := hf 0 g0 rfl
    have h1 := hf 1 g1 rfl
    have h2 := hf 2 g2 rfl
    rw [hg0.1, hg0.2, kI] at h0
    rw [hg1.1, hg1.2, kS] at h1
    rw [hg2.1, hg2.2, kS] at h2
    obtain ⟨a, e0, _, w0⟩ := DataW.trod_int hI (h0 : _ = some y0)
    obtain ⟨b, c, e1, r1, r2⟩ := rd_span' hI kI hS kS hf0 hf1 (h1 : _ = some y1)
    obtain ⟨d, e, e2, r3, r4⟩ := rd_span' hI kI hS kS hf0 hf1 (h2 : _ = some y2)
    simp at e0 e1 e2
    exact ⟨a, b, c, d, e, by rw [e0, e1.1, e1.2, e2.1, e2.2], in64_of w0, ⟨r1, r2⟩, r3, r4⟩
theorem rd_iss {tI tS tP : TypeId} {f0 f1 g0 g1 g2 : Field} (hI : P.underlying tI = some (.int .i64)) (kI : P.cellsOf tI = 1) (hS : P.underlying tS = some (.struct #[f0, f1])) (kS : P.cellsOf tS = 2) (hf0 : f0.type = tI ∧ f0.offset = 0) (hf1 : f1.type = tI ∧ f1.offset = 1)
    (hP : P.underlying tP = some (.struct #[g0, g1, g2])) (kP : P.cellsOf tP = 5) (hg0 : g0.type = tI ∧ g0.offset = 0) (hg1 : g1.type = tS ∧ g1.offset = 1) (hg2 : g2.type = tS ∧ g2.offset = 3) {v : Value} {d : DataW H} {ps : List MemPlace}
    (hv : Value.okWide P w .any base tP v) (h : DataW.Trod enc P w 0 spare held tP v d ps) : ∃ a b c d e, v = .agg #[.int .i64 a, .int .i64 b, .int .i64 c, .int .i64 d, .int .i64 e] ∧ In64 a ∧ (In64 b ∧ In64 c) ∧ In64 d ∧ In64 e := by
  obtain ⟨l, rfl, hl⟩ := agg_of hP hv
  obtain ⟨n, hn⟩ := h
  rw [hl] at hn
  obtain ⟨a, b, c, d, e, e1, h1⟩ := rd_iss' hI kI hS kS hf0 hf1 hP kP hg0 hg1 hg2 hn
  exact ⟨a, b, c, d, e, by rw [e1], h1⟩

theorem rd_spans {tI tS tL : TypeId} {f0 f1 : Field} (hI : P.underlying tI = some (.int .i64)) (kI : P.cellsOf tI = 1) (hS : P.underlying tS = some (.struct #[f0, f1])) (kS : P.cellsOf tS = 2) (hf0 : f0.type = tI ∧ f0.offset = 0) (hf1 : f1.type = tI ∧ f1.offset = 1) (hL : P.underlying tL = some (.slice tS)) {v : Value} {d : DataW H} {ps : List MemPlace}
    (hv : Value.okWide P w .any base tL v) (h : DataW.Trod enc P w 0 spare held tL v d ps) :
    ∃ a n c A B, v = .slice a n c ∧ n ≤ c ∧ c ≤ maxLen ∧ SpansAt w a n A B ∧ ∀ i, i < n → In64 (A i) ∧ In64 (B i) := by
  obtain ⟨n, hn⟩ := h
  rw [slice_cells hL hv] at hn
  exact rd_spans' hI kI hS kS hf0 hf1 hL hn

/-- rows of spans -/
theorem rd_rows' {tI tS tL tR : TypeId} {f0 f1 : Field} (hI : P.underlying tI = some (.int .i64)) (kI : P.cellsOf tI = 1) (hS : P.underlying tS = some (.struct #[f0, f1])) (kS : P.cellsOf tS = 2) (hf0 : f0.type = tI ∧ f0.offset = 0) (hf1 : f1.type = tI ∧ f1.offset = 1) (hL : P.underlying tL = some (.slice tS)) (kL : P.cellsOf tL = 1) (hR : P.underlying tR = some (.slice tL)) {n : Nat} {v : Value} {x : DataW H × List MemPlace} (h : DataW.trod enc P w 0 spare held n tR [v] = some x) :
    ∃ a n c R, v = .slice a n c ∧ n ≤ c ∧ c ≤ maxLen ∧ RowsAt w a n R ∧ ∀ i, i < n → (R i).n ≤ maxLen := by
  rcases open_slice hR h with ⟨hcs, hx⟩ | ⟨a, len, cap, m, n', D, Pl, hcs, _, hl, hm, hmm, hx, hi⟩
  · simp at hcs
    exact ⟨none, 0, 0, fun _ => ⟨none, 0, 0, fun _ => 0, fun _ => 0⟩, hcs, Nat.le_refl _, Nat.zero_le _, .inl rfl, fun i hi => by omega⟩
  · simp at hcs
    have hlm : len ≤ m := by rw [hmm]; split <;> omega
    have each : ∀ i, ∃ q : RowD, i < m → w.cell? (a.add (i * 1)) = some (.slice q.a q.n q.c) ∧ SpansAt w q.a q.n q.A q.B ∧ q.n ≤ maxLen := fun i => by
      by_cases him : i < m
      · obtain ⟨cs, h1, h2⟩ := hi i him
        rw [kL] at h1
        have hlen : cs.length = 1 := (World.cells?_some h1).2.1
        have hc := (World.cells?_some h1).2.2
        match cs, hlen with
        | [c0], _ =>
          obtain ⟨a1, n1, c1, A, B, rfl, q1, q2, q3, q4⟩ := rd_spans' hI kI hS kS hf0 hf1 hL h2
          have := hc 0 (by omega)
          exact ⟨⟨a1, n1, c1, A, B⟩, fun _ => ⟨by simpa [Addr.add] using this, q3, Nat.le_trans q1 q2⟩⟩
      · exact ⟨⟨none, 0, 0, fun _ => 0, fun _ => 0⟩, fun h => absurd h him⟩
    obtain ⟨Q, hQ⟩ := Classical.axiomOfChoice each
    clear each
    refine ⟨some a, len, cap, Q, hcs, hl, hm, ?_, fun i hi => (hQ i (by omega)).2.2⟩
    by_cases h0 : len = 0
    · exact .inl h0
    · have c0 := (hQ 0 (by omega)).1
      obtain ⟨b, off, spot⟩ := a
      have hs : spot = none := by simpa [Addr.add] using World.cell?_spot c0
      subst hs
      refine .inr ⟨b, off, rfl, by simpa [Addr.add] using World.block_lt_of_cell? w _ c0, fun i hi => ?_⟩
      obtain ⟨q0, q1, _⟩ := hQ i (by omega)
      rw [WideShapes.add_plain, Nat.mul_one] at q0
      exact ⟨q0, q1⟩

theorem rd_clim {tI tS tL tR tC : TypeId} {f0 f1 g0 g1 g2 : Field} (hI : P.underlying tI = some (.int .i64)) (kI : P.cellsOf tI = 1) (hS : P.underlying tS = some (.struct #[f0, f1])) (kS : P.cellsOf tS = 2) (hf0 : f0.type = tI ∧ f0.offset = 0) (hf1 : f1.type = tI ∧ f1.offset = 1) (hL : P.underlying tL = some (.slice tS)) (kL : P.cellsOf tL = 1) (hR : P.underlying tR = some (.slice tL)) (kR : P.cellsOf tR = 1)
    (hC : P.underlying tC = some (.struct #[g0, g1, g2])) (kC : P.cellsOf tC = 3) (hg0 : g0.type = tI ∧ g0.offset = 0) (hg1 : g1.type = tR ∧ g1.offset = 1) (hg2 : g2.type = tR ∧ g2.offset = 2) {v : Value} {d : DataW H} {ps : List MemPlace}
    (hv : Value.okWide P w .any base tC v) (h : DataW.Trod enc P w 0 spare held tC v d ps) :
    ∃ C : Clim, v = .agg #[.int .i64 C.days, .slice C.aA C.nA C.cA, .slice C.aW C.nW C.cW] ∧ C.In w ∧ In64 C.days ∧ C.nA ≤ maxLen ∧ C.nW ≤ maxLen ∧ (∀ i, i < C.nA → (C.RA i).n ≤ maxLen) ∧ ∀ i, i < C.nW → (C.RW i).n ≤ maxLen := by
  obtain ⟨l, rfl, hl⟩ := agg_of hC hv
  obtain ⟨n, hn⟩ := h
  rw [hl] at hn
  obtain ⟨xs, n', _, _, hl, hxl, hf⟩ := DataW.trod_struct hC hn
  have hl2 : l.length = 3 := hl.trans kC
  match l, hl2, xs, hxl with
  | [c0, c1, c2], _, [y0, y1, y2], _ =>
    have h0 := hf 0 g0 rfl
    have h1 := hf 1 g1 rfl
    have h2 := hf 2 g2 rfl
    rw [hg0.1, hg0.2, kI] at h0
    rw [hg1.1, hg1.2, kR] at h1
    rw [hg2.1, hg2.2, kR] at h2
    obtain ⟨z, e0, _, w0⟩ := DataW.trod_int hI (h0 : _ = some y0)
    obtain ⟨aA, nA, cA, RA, rfl, p1, p2, p3, p4⟩ := rd_rows' hI kI hS kS hf0 hf1 hL kL hR (h1 : DataW.trod _ _ _ _ _ _ _ _ [c1] = some y1)
    obtain ⟨aW, nW, cW, RW, rfl, q1, q2, q3, q4⟩ := rd_rows' hI kI hS kS hf0 hf1 hL kL hR (h2 : DataW.trod _ _ _ _ _ _ _ _ [c2] = some y2)
    simp at e0
    exact ⟨⟨z, aA, nA, cA, aW, nW, cW, RA, RW⟩, by rw [e0], ⟨p3, q3⟩, in64_of w0, Nat.le_trans p1 p2, Nat.le_trans q1 q2, p4, q4⟩
end
end Go.Proofs.Ytljofnmgddfljaa
