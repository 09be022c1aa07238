/- How the arguments of the laws read: parts, lists of parts, tables. No conditions beyond each theorem's own. -/
import Derived.Test.YtohcopdfdmjhnaaAd
import Derived.Test.YtohcopdfdmjhnaaAe
import Derived.Test.YtohcopdfdmjhnaaSe
import Derived.Laws.IdiomArrays
set_option linter.unusedVariables false
set_option linter.unusedSimpArgs false
set_option linter.unusedSectionVars false
set_option linter.constructorNameAsVariable false
namespace Go.Proofs.Ytohcopdfdmjhnaa.L1
open Go.ChangeShapes Go.WideShapes Go.ChangeAt Go.RowKit Go.Deep
open Go.Proofs.Ytohcopdfdmjhnaa

section
variable {H : Type} {enc : TypeId × Value → H} {P : Program} {w : World} {base : Nat} {spare : Nat → Bool} {held : Bool}

theorem inU16_of {z : Int} (h : (Lit.int .u16 z).wf = true) : 0 ≤ z ∧ z ≤ 65535 := by simpa [Lit.wf, IntKind.min, IntKind.max, IntKind.signed, IntKind.bits] using h
theorem rd_u16 {t : TypeId} {v : Value} {d : DataW H} {ps : List MemPlace} (ht : P.underlying t = some (.int .u16)) (hv : Value.okWide P w .any base t v) (h : DataW.Trod enc P w 0 spare held t v d ps) : ∃ z, v = .int .u16 z ∧ 0 ≤ z ∧ z ≤ 65535 := by
  obtain ⟨z, rfl, _, _, hz⟩ := open_int ht hv h
  exact ⟨z, rfl, inU16_of hz⟩
/-- two spans -/
theorem rd_part' {tI tS tP : TypeId} {f0 f1 g0 g1 : Field} (hI : P.underlying tI = some (.int .i64)) (kI : P.cellsOf tI = 1) (hS : P.underlying tS = some (.struct #[f0, f1])) (kS : P.cellsOf tS = 2) (hf0 : f0.type = tI ∧ f0.offset = 0) (hf1 : f1.type = tI ∧ f1.offset = 1)
    (hP : P.underlying tP = some (.struct #[g0, g1])) (kP : P.cellsOf tP = 4) (hg0 : g0.type = tS ∧ g0.offset = 0) (hg1 : g1.type = tS ∧ g1.offset = 2) {n : Nat} {cs : List Value} {x : DataW H × List MemPlace}
    (h : DataW.trod enc P w 0 spare held n tP cs = some x) : ∃ p : Prt, cs = [.int .i64 p.al, .int .i64 p.ah, .int .i64 p.sl, .int .i64 p.sh] ∧ (In64 p.al ∧ In64 p.ah) ∧ In64 p.sl ∧ In64 p.sh := by
  obtain ⟨xs, n', _, _, hl, hxl, hf⟩ := DataW.trod_struct hP h
  have hl2 : cs.length = 4 := hl.trans kP
  match cs, hl2, xs, hxl with
  | [c0, c1, c2, c3], _, [y0, y1], _ =>
    have h0 := hf 0 g0 rfl
    have h1 := hf 1 g1 rfl
    rw [hg0.1, hg0.2, kS] at h0
    rw [hg1.1, hg1.2, kS] at h1
    obtain ⟨a, b, e0, r1, r2⟩ := rd_span' hI kI hS kS hf0 hf1 (h0 : _ = some y0)
    obtain ⟨c, d, e1, r3, r4⟩ := rd_span' hI kI hS kS hf0 hf1 (h1 : _ = some y1)
    simp at e0 e1
    exact ⟨⟨a, b, c, d⟩, by rw [e0.1, e0.2, e1.1, e1.2], ⟨r1, r2⟩, r3, r4⟩
theorem rd_part {tI tS tP : TypeId} {f0 f1 g0 g1 : Field} (hI : P.underlying tI = some (.int .i64)) (kI : P.cellsOf tI = 1) (hS : P.underlying tS = some (.struct #[f0, f1])) (kS : P.cellsOf tS = 2) (hf0 : f0.type = tI ∧ f0.offset = 0) (hf1 : f1.type = tI ∧ f1.offset = 1)
    (hP : P.underlying tP = some (.struct #[g0, g1])) (kP : P.cellsOf tP = 4) (hg0 : g0.type = tS ∧ g0.offset = 0) (hg1 : g1.type = tS ∧ g1.offset = 2) {v : Value} {d : DataW H} {ps : List MemPlace}
    (hv : Value.okWide P w .any base tP v) (h : DataW.Trod enc P w 0 spare held tP v d ps) : ∃ p : Prt, v = .agg #[.int .i64 p.al, .int .i64 p.ah, .int .i64 p.sl, .int .i64 p.sh] ∧ (In64 p.al ∧ In64 p.ah) ∧ In64 p.sl ∧ In64 p.sh := by
  obtain ⟨l, rfl, hl⟩ := agg_of hP hv
  obtain ⟨n, hn⟩ := h
  rw [hl] at hn
  obtain ⟨p, e1, h1⟩ := rd_part' hI kI hS kS hf0 hf1 hP kP hg0 hg1 hn
  exact ⟨p, by rw [e1], h1⟩
theorem rd_parts {tI tS tP tL : TypeId} {f0 f1 g0 g1 : Field} (hI : P.underlying tI = some (.int .i64)) (kI : P.cellsOf tI = 1) (hS : P.underlying tS = some (.struct #[f0, f1])) (kS : P.cellsOf tS = 2) (hf0 : f0.type = tI ∧ f0.offset = 0) (hf1 : f1.type = tI ∧ f1.offset = 1)
    (hP : P.underlying tP = some (.struct #[g0, g1])) (kP : P.cellsOf tP = 4) (hg0 : g0.type = tS ∧ g0.offset = 0) (hg1 : g1.type = tS ∧ g1.offset = 2) (hL : P.underlying tL = some (.slice tP)) {v : Value} {d : DataW H} {ps : List MemPlace}
    (hv : Value.okWide P w .any base tL v) (h : DataW.Trod enc P w 0 spare held tL v d ps) : ∃ a n c Q, v = .slice a n c ∧ n ≤ c ∧ c ≤ maxLen ∧ PartsAt w a n Q ∧ ∀ i, i < n → (In64 (Q i).al ∧ In64 (Q i).ah) ∧ In64 (Q i).sl ∧ In64 (Q i).sh := by
  obtain ⟨n, hn⟩ := h
  rw [slice_cells hL hv] at hn
  rcases open_slice hL hn with ⟨hcs, hx⟩ | ⟨a, len, cap, m, n', D, Pl, hcs, _, hl, hm, hmm, hx, hi⟩
  · simp at hcs
    exact ⟨none, 0, 0, fun _ => ⟨0, 0, 0, 0⟩, hcs, Nat.le_refl _, Nat.zero_le _, .inl rfl, fun i hi => by omega⟩
  · simp at hcs
    have hlm : len ≤ m := by rw [hmm]; split <;> omega
    have each : ∀ i, ∃ q : Prt, i < m → w.cell? (a.add (i * 4)) = some (.int .i64 q.al) ∧ w.cell? ((a.add (i * 4)).add 1) = some (.int .i64 q.ah) ∧ w.cell? ((a.add (i * 4)).add 2) = some (.int .i64 q.sl) ∧ w.cell? ((a.add (i * 4)).add 3) = some (.int .i64 q.sh) ∧ (In64 q.al ∧ In64 q.ah) ∧ In64 q.sl ∧ In64 q.sh := fun i => by
      by_cases him : i < m
      · obtain ⟨cs, h1, h2⟩ := hi i him
        rw [kP] at h1
        obtain ⟨q, rfl, r⟩ := rd_part' hI kI hS kS hf0 hf1 hP kP hg0 hg1 h2
        have hc := (World.cells?_some h1).2.2
        have c0 := hc 0 (by omega)
        have c1 := hc 1 (by omega)
        have c2 := hc 2 (by omega)
        have c3 := hc 3 (by omega)
        exact ⟨q, fun _ => ⟨by simpa [Addr.add] using c0, by simpa using c1, by simpa using c2, by simpa using c3, r⟩⟩
      · exact ⟨⟨0, 0, 0, 0⟩, fun h => absurd h him⟩
    obtain ⟨Q, hQ⟩ := Classical.axiomOfChoice each
    clear each
    refine ⟨some a, len, cap, Q, hcs, hl, hm, ?_, fun i hi => (hQ i (by omega)).2.2.2.2⟩
    by_cases h0 : len = 0
    · exact .inl h0
    · have c0 := (hQ 0 (by omega)).1
      obtain ⟨b, off, spot⟩ := a
      have hs : spot = none := by simpa [Addr.add] using World.cell?_spot c0
      subst hs
      refine .inr ⟨b, off, rfl, by simpa [Addr.add] using World.block_lt_of_cell? w _ c0, fun i hi => ?_⟩
      obtain ⟨q0, q1, q2, q3, _⟩ := hQ i (by omega)
      rw [WideShapes.add_plain] at q0 q1 q2 q3
      rw [WideShapes.add_plain] at q1 q2 q3
      exact ⟨q0, q1, q2, q3⟩

/-- rows of numbers -/
theorem rd_mat' {tI tL tR : TypeId} (hI : P.underlying tI = some (.int .i64)) (kI : P.cellsOf tI = 1) (hL : P.underlying tL = some (.slice tI)) (kL : P.cellsOf tL = 1) (hR : P.underlying tR = some (.slice tL)) {n : Nat} {v : Value} {x : DataW H × List MemPlace} (h : DataW.trod enc P w 0 spare held n tR [v] = some x) :
    ∃ r : Rows, v = .slice r.a r.n r.c ∧ r.n ≤ r.c ∧ r.c ≤ maxLen ∧ r.In w ∧ ∀ i, i < r.n → r.rN i ≤ maxLen ∧ ∀ k, k < r.rN i → In64 (r.M i k) := by
  rcases open_slice hR h with ⟨hcs, hx⟩ | ⟨a, len, cap, m, n', D, Pl, hcs, _, hl, hm, hmm, hx, hi⟩
  · simp at hcs
    exact ⟨⟨none, 0, 0, fun _ => none, fun _ => 0, fun _ => 0, fun _ _ => 0⟩, hcs, Nat.le_refl _, Nat.zero_le _, ⟨.inl rfl, fun i hi => by cases hi⟩, fun i hi => by cases hi⟩
  · simp at hcs
    have hlm : len ≤ m := by rw [hmm]; split <;> omega
    have each : ∀ i, ∃ q : (Option Addr × Nat × Nat) × (Nat → Int), i < m → w.cell? (a.add (i * 1)) = some (.slice q.1.1 q.1.2.1 q.1.2.2) ∧ NumsAt .i64 w q.1.1 q.1.2.1 q.2 ∧ q.1.2.1 ≤ maxLen ∧ ∀ k, k < q.1.2.1 → In64 (q.2 k) := fun i => by
      by_cases him : i < m
      · obtain ⟨cs, h1, h2⟩ := hi i him
        rw [kL] at h1
        have hlen : cs.length = 1 := (World.cells?_some h1).2.1
        have hc := (World.cells?_some h1).2.2
        match cs, hlen with
        | [c0], _ =>
          obtain ⟨a1, n1, c1, A, rfl, q1, q2, q3, q4⟩ := rd_nums' hL hI kI h2
          have := hc 0 (by omega)
          exact ⟨⟨⟨a1, n1, c1⟩, A⟩, fun _ => ⟨by simpa [Addr.add] using this, q3, Nat.le_trans q1 q2, fun k hk => in64_of (q4 k hk)⟩⟩
      · exact ⟨⟨⟨none, 0, 0⟩, fun _ => 0⟩, fun h => absurd h him⟩
    obtain ⟨Q, hQ⟩ := Classical.axiomOfChoice each
    clear each
    refine ⟨⟨some a, len, cap, fun i => (Q i).1.1, fun i => (Q i).1.2.1, fun i => (Q i).1.2.2, fun i => (Q i).2⟩, hcs, hl, hm, ⟨?_, fun i hi => (hQ i (Nat.lt_of_lt_of_le hi hlm)).2.1⟩, fun i hi => (hQ i (Nat.lt_of_lt_of_le hi hlm)).2.2⟩
    by_cases h0 : len = 0
    · exact .inl h0
    · have c0 := (hQ 0 (by omega)).1
      obtain ⟨b, off, spot⟩ := a
      have hs : spot = none := by simpa [Addr.add] using World.cell?_spot c0
      subst hs
      refine .inr ⟨b, off, rfl, by simpa [Addr.add] using World.block_lt_of_cell? w _ c0, fun i hi => ?_⟩
      have q0 := (hQ i (Nat.lt_of_lt_of_le hi hlm)).1
      rw [WideShapes.add_plain, Nat.mul_one] at q0
      exact q0
/-- lengths that slices have -/
structure Tab.Lens (t : Tab) : Prop where
  nT : t.nT ≤ 9223372036854775807
  nS : t.nS ≤ 9223372036854775807
  H : t.H.n ≤ 9223372036854775807
  HR : ∀ i, i < t.H.n → t.H.rN i ≤ 9223372036854775807
  R : t.R.n ≤ 9223372036854775807
  RR : ∀ i, i < t.R.n → t.R.rN i ≤ 9223372036854775807
/-- a table's numbers fit 64 bits -/
structure Tab.Num (t : Tab) : Prop where
  T : ∀ i, i < t.nT → In64 (t.T i)
  S : ∀ i, i < t.nS → In64 (t.S i)
  H : ∀ i, i < t.H.n → ∀ k, k < t.H.rN i → In64 (t.H.M i k)
  R : ∀ i, i < t.R.n → ∀ k, k < t.R.rN i → In64 (t.R.M i k)
theorem rd_table {tI tL tR tT : TypeId} {g0 g1 g2 g3 : Field} (hI : P.underlying tI = some (.int .i64)) (kI : P.cellsOf tI = 1) (hL : P.underlying tL = some (.slice tI)) (kL : P.cellsOf tL = 1) (hR : P.underlying tR = some (.slice tL)) (kR : P.cellsOf tR = 1)
    (hT : P.underlying tT = some (.struct #[g0, g1, g2, g3])) (kT : P.cellsOf tT = 4) (hg0 : g0.type = tL ∧ g0.offset = 0) (hg1 : g1.type = tL ∧ g1.offset = 1) (hg2 : g2.type = tR ∧ g2.offset = 2) (hg3 : g3.type = tR ∧ g3.offset = 3) {v : Value} {d : DataW H} {ps : List MemPlace}
    (hv : Value.okWide P w .any base tT v) (h : DataW.Trod enc P w 0 spare held tT v d ps) : ∃ t : Tab, v = t.val ∧ t.In w ∧ t.Lens ∧ t.Num := by
  obtain ⟨l, rfl, hl⟩ := agg_of hT hv
  obtain ⟨n, hn⟩ := h
  rw [hl] at hn
  obtain ⟨xs, n', _, _, hl, hxl, hf⟩ := DataW.trod_struct hT hn
  have hl2 : l.length = 4 := hl.trans kT
  match l, hl2, xs, hxl with
  | [c0, c1, c2, c3], _, [y0, y1, y2, y3], _ =>
    have h0 := hf 0 g0 rfl
    have h1 := hf 1 g1 rfl
    have h2 := hf 2 g2 rfl
    have h3 := hf 3 g3 rfl
    rw [hg0.1, hg0.2, kL] at h0
    rw [hg1.1, hg1.2, kL] at h1
    rw [hg2.1, hg2.2, kR] at h2
    rw [hg3.1, hg3.2, kR] at h3
    obtain ⟨aT, nT, cT, T, rfl, p1, p2, p3, p4⟩ := rd_nums' hL hI kI (h0 : DataW.trod _ _ _ _ _ _ _ _ [c0] = some y0)
    obtain ⟨aS, nS, cS, S, rfl, q1, q2, q3, q4⟩ := rd_nums' hL hI kI (h1 : DataW.trod _ _ _ _ _ _ _ _ [c1] = some y1)
    obtain ⟨rH, rfl, r1, r2, r3, r4⟩ := rd_mat' hI kI hL kL hR (h2 : DataW.trod _ _ _ _ _ _ _ _ [c2] = some y2)
    obtain ⟨rR, rfl, s1, s2, s3, s4⟩ := rd_mat' hI kI hL kL hR (h3 : DataW.trod _ _ _ _ _ _ _ _ [c3] = some y3)
    unfold maxLen at *
    exact ⟨⟨aT, nT, cT, T, aS, nS, cS, S, rH, rR⟩, rfl, ⟨p3, q3, r3, s3⟩, ⟨by show nT ≤ _; omega, by show nS ≤ _; omega, by show rH.n ≤ _; omega, fun i hi => by have := (r4 i hi).1; omega, by show rR.n ≤ _; omega, fun i hi => by have := (s4 i hi).1; omega⟩,
      ⟨fun i hi => in64_of (p4 i hi), fun i hi => in64_of (q4 i hi), fun i hi => (r4 i hi).2, fun i hi => (s4 i hi).2⟩⟩
end
end Go.Proofs.Ytohcopdfdmjhnaa.L1
