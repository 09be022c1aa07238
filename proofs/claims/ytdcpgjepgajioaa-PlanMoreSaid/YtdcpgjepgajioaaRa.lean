/- How the arguments of the laws read: outlooks, what may be laid down, rows of numbers. No conditions beyond each theorem's own. -/
import Derived.Test.YtdcpgjepgajioaaAd
import Derived.Test.YtdcpgjepgajioaaAe
import Derived.Test.YtdcpgjepgajioaaBb
import Derived.Laws.IdiomArrays
set_option linter.unusedVariables false
set_option linter.unusedSimpArgs false
set_option linter.unusedSectionVars false
set_option linter.constructorNameAsVariable false
namespace Go.Proofs.Ytdcpgjepgajioaa
open Go.ChangeShapes Go.WideShapes Go.ChangeAt Go.RowKit Go.Deep

section
variable {H : Type} {enc : TypeId × Value → H} {P : Program} {w : World} {base : Nat} {spare : Nat → Bool} {held : Bool}

theorem inU16_of {z : Int} (h : (Lit.int .u16 z).wf = true) : 0 ≤ z ∧ z ≤ 65535 := by simpa [Lit.wf, IntKind.min, IntKind.max, IntKind.signed, IntKind.bits] using h
theorem rd_u16 {t : TypeId} {v : Value} {d : DataW H} {ps : List MemPlace} (ht : P.underlying t = some (.int .u16)) (hv : Value.okWide P w .any base t v) (h : DataW.Trod enc P w 0 spare held t v d ps) : ∃ z, v = .int .u16 z ∧ 0 ≤ z ∧ z ≤ 65535 := by
  obtain ⟨z, rfl, _, _, hz⟩ := open_int ht hv h
  exact ⟨z, rfl, inU16_of hz⟩
/-- a list whose elements have one cell -/
theorem rd_each {tE tL : TypeId} {α : Type} (dflt : α) (f : α → Value) (G : α → Prop) (hL : P.underlying tL = some (.slice tE)) (kE : P.cellsOf tE = 1) (hr : ∀ (n : Nat) (v : Value) (x : DataW H × List MemPlace), DataW.trod enc P w 0 spare held n tE [v] = some x → ∃ q : α, v = f q ∧ G q) {n : Nat} {v : Value} {x : DataW H × List MemPlace} (h : DataW.trod enc P w 0 spare held n tL [v] = some x) :
    ∃ (a : Option Addr) (n c : Nat) (Q : Nat → α), v = .slice a n c ∧ n ≤ c ∧ c ≤ maxLen ∧ CellsAt w a n (fun i => f (Q i)) ∧ ∀ i, i < n → G (Q i) := by
  rcases open_slice hL h with ⟨hcs, hx⟩ | ⟨a, len, cap, m, n', D, Pl, hcs, _, hl, hm, hmm, hx, hi⟩
  · simp at hcs
    exact ⟨none, 0, 0, fun _ => dflt, hcs, Nat.le_refl _, Nat.zero_le _, .inl rfl, fun i hi => by cases hi⟩
  · simp at hcs
    have hlm : len ≤ m := by rw [hmm]; split <;> omega
    have each : ∀ i, ∃ q : α, i < m → w.cell? (a.add (i * 1)) = some (f q) ∧ G q := fun i => by
      by_cases him : i < m
      · obtain ⟨cs, h1, h2⟩ := hi i him
        rw [kE] at h1
        have hlen : cs.length = 1 := (World.cells?_some h1).2.1
        have hc := (World.cells?_some h1).2.2
        match cs, hlen with
        | [c0], _ =>
          obtain ⟨q, rfl, g⟩ := hr _ _ _ h2
          have := hc 0 (by omega)
          exact ⟨q, fun _ => ⟨by simpa [Addr.add] using this, g⟩⟩
      · exact ⟨dflt, fun h => absurd h him⟩
    obtain ⟨Q, hQ⟩ := Classical.axiomOfChoice each
    clear each
    refine ⟨some a, len, cap, Q, hcs, hl, hm, ?_, fun i hi => (hQ i (Nat.lt_of_lt_of_le hi hlm)).2⟩
    by_cases h0 : len = 0
    · exact .inl h0
    · have c0 := (hQ 0 (by omega)).1
      obtain ⟨b, off, spot⟩ := a
      have hs : spot = none := by simpa [Addr.add] using World.cell?_spot c0
      subst hs
      refine .inr ⟨b, off, rfl, by simpa [Addr.add] using World.block_lt_of_cell? w _ c0, fun i hi => ?_⟩
      have q0 := (hQ i (Nat.lt_of_lt_of_le hi hlm)).1
      rw [WideShapes.add_plain, Nat.mul_one] at q0
      exact q0
/-- a row -/
structure RowV where
  a : Option Addr
  n : Nat
  c : Nat
  L : Nat → Int
def RowV.val (r : RowV) : Value := .slice r.a r.n r.c
def RowV.Ok (r : RowV) (w : World) : Prop := IntsAt w r.a r.n r.L ∧ r.n ≤ 9223372036854775807 ∧ ∀ k, k < r.n → In64 (r.L k)
structure RowVs where
  a : Option Addr
  n : Nat
  c : Nat
  R : Nat → RowV
def RowVs.val (r : RowVs) : Value := .slice r.a r.n r.c
def RowVs.Ok (r : RowVs) (w : World) : Prop := CellsAt w r.a r.n (fun i => (r.R i).val) ∧ r.n ≤ 9223372036854775807 ∧ ∀ i, i < r.n → (r.R i).Ok w
theorem rd_row' {tI tL : TypeId} (hI : P.underlying tI = some (.int .i64)) (kI : P.cellsOf tI = 1) (hL : P.underlying tL = some (.slice tI)) {n : Nat} {v : Value} {x : DataW H × List MemPlace} (h : DataW.trod enc P w 0 spare held n tL [v] = some x) : ∃ r : RowV, v = r.val ∧ r.Ok w := by
  obtain ⟨a, n, c, L, rfl, q1, q2, q3, q4⟩ := rd_nums' hL hI kI h
  unfold maxLen at q2
  exact ⟨⟨a, n, c, L⟩, rfl, q3, by show n ≤ _; omega, fun k hk => in64_of (q4 k hk)⟩
theorem rd_mat' {tI tL tR : TypeId} (hI : P.underlying tI = some (.int .i64)) (kI : P.cellsOf tI = 1) (hL : P.underlying tL = some (.slice tI)) (kL : P.cellsOf tL = 1) (hR : P.underlying tR = some (.slice tL)) {n : Nat} {v : Value} {x : DataW H × List MemPlace} (h : DataW.trod enc P w 0 spare held n tR [v] = some x) : ∃ r : RowVs, v = r.val ∧ r.Ok w := by
  obtain ⟨a, n, c, Q, rfl, q1, q2, q3, q4⟩ := rd_each ⟨none, 0, 0, fun _ => 0⟩ RowV.val (fun r => r.Ok w) hR kL (fun n v x h => rd_row' hI kI hL h) h
  unfold maxLen at q2
  exact ⟨⟨a, n, c, Q⟩, rfl, q3, by show n ≤ _; omega, q4⟩
/-- a path of one's own -/
theorem rd_mat {tI tL tR : TypeId} (hI : P.underlying tI = some (.int .i64)) (kI : P.cellsOf tI = 1) (hL : P.underlying tL = some (.slice tI)) (kL : P.cellsOf tL = 1) (hR : P.underlying tR = some (.slice tL)) {v : Value} {d : DataW H} {ps : List MemPlace} (hv : Value.okWide P w .any base tR v) (h : DataW.Trod enc P w 0 spare held tR v d ps) : ∃ r : RowVs, v = r.val ∧ r.Ok w := by
  obtain ⟨n, hn⟩ := h
  rw [slice_cells hR hv] at hn
  exact rd_mat' hI kI hL kL hR hn
/-- numbers fit 64 bits -/
structure Otl.Num (o : Otl) : Prop where
  S : ∀ i, i < o.nS → In64 (o.S i)
  A : ∀ i, i < o.nA → In64 (o.A i)
  V : ∀ i, i < o.nP → ∀ t, t < o.pN i → ∀ p, p < o.yN i t → In64 (o.V i t p)
  kl : In64 o.kl
  kh : In64 o.kh
structure Lyg.Num (y : Lyg) : Prop where
  R : ∀ i, i < y.nR → In64 (y.R i)
  M : ∀ i, i < y.nM → In64 (y.M i)
  lot : In64 y.lot
  room : In64 y.room
theorem rd_outlook {tI tL tR tP tS tT : TypeId} {f0 f1 g0 g1 g2 g3 : Field} (hI : P.underlying tI = some (.int .i64)) (kI : P.cellsOf tI = 1) (hL : P.underlying tL = some (.slice tI)) (kL : P.cellsOf tL = 1) (hR : P.underlying tR = some (.slice tL)) (kR : P.cellsOf tR = 1) (hP : P.underlying tP = some (.slice tR)) (kP : P.cellsOf tP = 1)
    (hS : P.underlying tS = some (.struct #[f0, f1])) (kS : P.cellsOf tS = 2) (hf0 : f0.type = tI ∧ f0.offset = 0) (hf1 : f1.type = tI ∧ f1.offset = 1)
    (hT : P.underlying tT = some (.struct #[g0, g1, g2, g3])) (kT : P.cellsOf tT = 5) (hg0 : g0.type = tL ∧ g0.offset = 0) (hg1 : g1.type = tS ∧ g1.offset = 1) (hg2 : g2.type = tL ∧ g2.offset = 3) (hg3 : g3.type = tP ∧ g3.offset = 4) {v : Value} {d : DataW H} {ps : List MemPlace}
    (hv : Value.okWide P w .any base tT v) (h : DataW.Trod enc P w 0 spare held tT v d ps) : ∃ o : Otl, v = o.val ∧ o.In w ∧ o.Fits ∧ o.Num := by
  obtain ⟨l, rfl, hl⟩ := agg_of hT hv
  obtain ⟨n, hn⟩ := h
  rw [hl] at hn
  obtain ⟨xs, n', _, _, hl, hxl, hf⟩ := DataW.trod_struct hT hn
  have hl2 : l.length = 5 := hl.trans kT
  match l, hl2, xs, hxl with
  | [c0, c1, c2, c3, c4], _, [y0, y1, y2, y3], _ =>
    have h0 := hf 0 g0 rfl
    have h1 := hf 1 g1 rfl
    have h2 := hf 2 g2 rfl
    have h3 := hf 3 g3 rfl
    rw [hg0.1, hg0.2, kL] at h0
    rw [hg1.1, hg1.2, kS] at h1
    rw [hg2.1, hg2.2, kL] at h2
    rw [hg3.1, hg3.2, kP] at h3
    obtain ⟨aT, nT, cT, T, rfl, p1, p2, p3, p4⟩ := rd_nums' hL hI kI (h0 : DataW.trod _ _ _ _ _ _ _ _ [c0] = some y0)
    obtain ⟨lo, hi, e1, r1, r2⟩ := rd_span' hI kI hS kS hf0 hf1 (h1 : DataW.trod _ _ _ _ _ _ _ _ [c1, c2] = some y1)
    simp at e1
    obtain ⟨rfl, rfl⟩ := e1
    obtain ⟨aS, nS, cS, S, rfl, q1, q2, q3, q4⟩ := rd_nums' hL hI kI (h2 : DataW.trod _ _ _ _ _ _ _ _ [c3] = some y2)
    obtain ⟨aP, nP, cP, Q, rfl, s1, s2, s3, s4⟩ := rd_each ⟨none, 0, 0, fun _ => ⟨none, 0, 0, fun _ => 0⟩⟩ RowVs.val (fun r => r.Ok w) hP kR (fun n v x h => rd_mat' hI kI hL kL hR h) (h3 : DataW.trod _ _ _ _ _ _ _ _ [c4] = some y3)
    unfold maxLen at *
    exact ⟨⟨aT, nT, cT, T, lo, hi, aS, nS, cS, S, aP, nP, cP, fun i => (Q i).a, fun i => (Q i).n, fun i => (Q i).c, fun i t => ((Q i).R t).a, fun i t => ((Q i).R t).n, fun i t => ((Q i).R t).c, fun i t => ((Q i).R t).L⟩, rfl,
      ⟨p3, q3, s3, fun i hi => (s4 i hi).1, fun i hi t ht => ((s4 i hi).2.2 t ht).1⟩, ⟨by show nT ≤ _; omega, by show nS ≤ _; omega, by show nP ≤ _; omega, fun i hi => (s4 i hi).2.1, fun i hi t ht => ((s4 i hi).2.2 t ht).2.1⟩,
      ⟨fun i hi => in64_of (p4 i hi), fun i hi => in64_of (q4 i hi), fun i hi t ht p hp => ((s4 i hi).2.2 t ht).2.2 p hp, r1, r2⟩⟩
theorem rd_laying {tI tL tT : TypeId} {g0 g1 g2 g3 : Field} (hI : P.underlying tI = some (.int .i64)) (kI : P.cellsOf tI = 1) (hL : P.underlying tL = some (.slice tI)) (kL : P.cellsOf tL = 1)
    (hT : P.underlying tT = some (.struct #[g0, g1, g2, g3])) (kT : P.cellsOf tT = 4) (hg0 : g0.type = tL ∧ g0.offset = 0) (hg1 : g1.type = tL ∧ g1.offset = 1) (hg2 : g2.type = tI ∧ g2.offset = 2) (hg3 : g3.type = tI ∧ g3.offset = 3) {v : Value} {d : DataW H} {ps : List MemPlace}
    (hv : Value.okWide P w .any base tT v) (h : DataW.Trod enc P w 0 spare held tT v d ps) : ∃ y : Lyg, v = y.val ∧ y.In w ∧ y.Fits ∧ y.Num := by
  obtain ⟨l, rfl, hl⟩ := agg_of hT hv
  obtain ⟨n, hn⟩ := h
  rw [hl] at hn
  obtain ⟨xs, n', _, _, hl, hxl, hf⟩ := DataW.trod_struct hT hn
  have hl2 : l.length = 4 := hl.trans kT
  match l, hl2, xs, hxl with
  | [c0, c1, c2, c3], _, [y0, y1, y2, y3], _ =>
    have h0 := hf 0 g0 rfl
    have h1 := hf 1 g1 rfl
    have h2 := hf 2 g2 rfl
    have h3 := hf 3 g3 rfl
    rw [hg0.1, hg0.2, kL] at h0
    rw [hg1.1, hg1.2, kL] at h1
    rw [hg2.1, hg2.2, kI] at h2
    rw [hg3.1, hg3.2, kI] at h3
    obtain ⟨aT, nT, cT, T, rfl, p1, p2, p3, p4⟩ := rd_nums' hL hI kI (h0 : DataW.trod _ _ _ _ _ _ _ _ [c0] = some y0)
    obtain ⟨aS, nS, cS, S, rfl, q1, q2, q3, q4⟩ := rd_nums' hL hI kI (h1 : DataW.trod _ _ _ _ _ _ _ _ [c1] = some y1)
    obtain ⟨lot, e2, _, w2⟩ := DataW.trod_int hI (h2 : _ = some y2)
    obtain ⟨room, e3, _, w3⟩ := DataW.trod_int hI (h3 : _ = some y3)
    simp at e2 e3
    subst e2 e3
    unfold maxLen at *
    exact ⟨⟨aT, nT, cT, T, aS, nS, cS, S, lot, room⟩, rfl, ⟨p3, q3⟩, ⟨by show nT ≤ _; omega, by show nS ≤ _; omega⟩, ⟨fun i hi => in64_of (p4 i hi), fun i hi => in64_of (q4 i hi), in64_of w2, in64_of w3⟩⟩
end
end Go.Proofs.Ytdcpgjepgajioaa
