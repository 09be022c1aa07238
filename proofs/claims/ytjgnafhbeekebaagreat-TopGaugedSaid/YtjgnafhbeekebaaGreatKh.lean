/- How the arguments of the laws read: climates, contents, stays, measurements. Contracts of Strength, Check, Weak in one form each. No conditions beyond each theorem's own. -/
import Derived.Test.YtjgnafhbeekebaaGreatAz
import Derived.Test.YtjgnafhbeekebaaGreatKg
import Derived.Test.YtjgnafhbeekebaaGreatAw
import Derived.Test.YtjgnafhbeekebaaGreatKe
import Derived.Laws.IdiomArrays
set_option linter.unusedVariables false
set_option linter.unusedSimpArgs false
set_option linter.unusedSectionVars false
set_option linter.constructorNameAsVariable false
namespace Go.Proofs.YtjgnafhbeekebaaGreat.L7
open Go.ChangeShapes Go.WideShapes Go.ChangeAt Go.RowKit Go.Deep

section
variable {H : Type} {enc : TypeId × Value → H} {P : Program} {w : World} {base : Nat} {spare : Nat → Bool} {held : Bool}

/-- a number and two spans -/
theorem rd_iss' {tI tS tP : TypeId} {f0 f1 g0 g1 g2 : Field} (hI : P.underlying tI = some (.int .i64)) (kI : P.cellsOf tI = 1) (hS : P.underlying tS = some (.struct #[f0, f1])) (kS : P.cellsOf tS = 2) (hf0 : f0.type = tI ∧ f0.offset = 0) (hf1 : f1.type = tI ∧ f1.offset = 1)
    (hP : P.underlying tP = some (.struct #[g0, g1, g2])) (kP : P.cellsOf tP = 5) (hg0 : g0.type = tI ∧ g0.offset = 0) (hg1 : g1.type = tS ∧ g1.offset = 1) (hg2 : g2.type = tS ∧ g2.offset = 3) {n : Nat} {cs : List Value} {x : DataW H × List MemPlace}
    (h : DataW.trod enc P w 0 spare held n tP cs = some x) : ∃ a b c d e, cs = [.int .i64 a, .int .i64 b, .int .i64 c, .int .i64 d, .int .i64 e] ∧ In64 a ∧ (In64 b ∧ In64 c) ∧ In64 d ∧ In64 e := by
  obtain ⟨xs, n', _, _, hl, hxl, hf⟩ := DataW.trod_struct hP h
  have hl2 : cs.length = 5 := hl.trans kP
  match cs, hl2, xs, hxl with
  | [c0, c1, c2, c3, c4], _, [y0, y1, y2], _ =>
    have h0 := hf 0 g0 rfl
    have h1 := hf 1 g1 rfl
    have h2 := hf 2 g2 rfl
    rw [hg0.1, hg0.2, kI] at h0
    rw [hg1.1, hg1.2, kS] at h1
    rw [hg2.1, hg2.2, kS] at h2
    obtain ⟨a, e0, _, w0⟩ := DataW.trod_int hI (h0 : _ = some y0)
    obtain ⟨b, c, e1, r1, r2⟩ := rd_span' hI kI hS kS hf0 hf1 (h1 : _ = some y1)
    obtain ⟨d, e, e2, r3, r4⟩ := rd_span' hI kI hS kS hf0 hf1 (h2 : _ = some y2)
    simp at e0 e1 e2
    exact ⟨a, b, c, d, e, by rw [e0, e1.1, e1.2, e2.1, e2.2], in64_of w0, ⟨r1, r2⟩, r3, r4⟩
theorem rd_iss {tI tS tP : TypeId} {f0 f1 g0 g1 g2 : Field} (hI : P.underlying tI = some (.int .i64)) (kI : P.cellsOf tI = 1) (hS : P.underlying tS = some (.struct #[f0, f1])) (kS : P.cellsOf tS = 2) (hf0 : f0.type = tI ∧ f0.offset = 0) (hf1 : f1.type = tI ∧ f1.offset = 1)
    (hP : P.underlying tP = some (.struct #[g0, g1, g2])) (kP : P.cellsOf tP = 5) (hg0 : g0.type = tI ∧ g0.offset = 0) (hg1 : g1.type = tS ∧ g1.offset = 1) (hg2 : g2.type = tS ∧ g2.offset = 3) {v : Value} {d : DataW H} {ps : List MemPlace}
    (hv : Value.okWide P w .any base tP v) (h : DataW.Trod enc P w 0 spare held tP v d ps) : ∃ a b c d e, v = .agg #[.int .i64 a, .int .i64 b, .int .i64 c, .int .i64 d, .int .i64 e] ∧ In64 a ∧ (In64 b ∧ In64 c) ∧ In64 d ∧ In64 e := by
  obtain ⟨l, rfl, hl⟩ := agg_of hP hv
  obtain ⟨n, hn⟩ := h
  rw [hl] at hn
  obtain ⟨a, b, c, d, e, e1, h1⟩ := rd_iss' hI kI hS kS hf0 hf1 hP kP hg0 hg1 hg2 hn
  exact ⟨a, b, c, d, e, by rw [e1], h1⟩

theorem rd_spans {tI tS tL : TypeId} {f0 f1 : Field} (hI : P.underlying tI = some (.int .i64)) (kI : P.cellsOf tI = 1) (hS : P.underlying tS = some (.struct #[f0, f1])) (kS : P.cellsOf tS = 2) (hf0 : f0.type = tI ∧ f0.offset = 0) (hf1 : f1.type = tI ∧ f1.offset = 1) (hL : P.underlying tL = some (.slice tS)) {v : Value} {d : DataW H} {ps : List MemPlace}
    (hv : Value.okWide P w .any base tL v) (h : DataW.Trod enc P w 0 spare held tL v d ps) :
    ∃ a n c A B, v = .slice a n c ∧ n ≤ c ∧ c ≤ maxLen ∧ SpansAt w a n A B ∧ ∀ i, i < n → In64 (A i) ∧ In64 (B i) := by
  obtain ⟨n, hn⟩ := h
  rw [slice_cells hL hv] at hn
  exact rd_spans' hI kI hS kS hf0 hf1 hL hn

/-- rows of spans -/
theorem rd_rows' {tI tS tL tR : TypeId} {f0 f1 : Field} (hI : P.underlying tI = some (.int .i64)) (kI : P.cellsOf tI = 1) (hS : P.underlying tS = some (.struct #[f0, f1])) (kS : P.cellsOf tS = 2) (hf0 : f0.type = tI ∧ f0.offset = 0) (hf1 : f1.type = tI ∧ f1.offset = 1) (hL : P.underlying tL = some (.slice tS)) (kL : P.cellsOf tL = 1) (hR : P.underlying tR = some (.slice tL)) {n : Nat} {v : Value} {x : DataW H × List MemPlace} (h : DataW.trod enc P w 0 spare held n tR [v] = some x) :
    ∃ a n c R, v = .slice a n c ∧ n ≤ c ∧ c ≤ maxLen ∧ RowsAt w a n R ∧ ∀ i, i < n → (R i).n ≤ maxLen := by
  rcases open_slice hR h with ⟨hcs, hx⟩ | ⟨a, len, cap, m, n', D, Pl, hcs, _, hl, hm, hmm, hx, hi⟩
  · simp at hcs
    exact ⟨none, 0, 0, fun _ => ⟨none, 0, 0, fun _ => 0, fun _ => 0⟩, hcs, Nat.le_refl _, Nat.zero_le _, .inl rfl, fun i hi => by omega⟩
  · simp at hcs
    have hlm : len ≤ m := by rw [hmm]; split <;> omega
    have each : ∀ i, ∃ q : RowD, i < m → w.cell? (a.add (i * 1)) = some (.slice q.a q.n q.c) ∧ SpansAt w q.a q.n q.A q.B ∧ q.n ≤ maxLen := fun i => by
      by_cases him : i < m
      · obtain ⟨cs, h1, h2⟩ := hi i him
        rw [kL] at h1
        have hlen : cs.length = 1 := (World.cells?_some h1).2.1
        have hc := (World.cells?_some h1).2.2
        match cs, hlen with
        | [c0], _ =>
          obtain ⟨a1, n1, c1, A, B, rfl, q1, q2, q3, q4⟩ := rd_spans' hI kI hS kS hf0 hf1 hL h2
          have := hc 0 (by omega)
          exact ⟨⟨a1, n1, c1, A, B⟩, fun _ => ⟨by simpa [Addr.add] using this, q3, Nat.le_trans q1 q2⟩⟩
      · exact ⟨⟨none, 0, 0, fun _ => 0, fun _ => 0⟩, fun h => absurd h him⟩
    obtain ⟨Q, hQ⟩ := Classical.axiomOfChoice each
    clear each
    refine ⟨some a, len, cap, Q, hcs, hl, hm, ?_, fun i hi => (hQ i (by omega)).2.2⟩
    by_cases h0 : len = 0
    · exact .inl h0
    · have c0 := (hQ 0 (by omega)).1
      obtain ⟨b, off, spot⟩ := a
      have hs : spot = none := by simpa [Addr.add] using World.cell?_spot c0
      subst hs
      refine .inr ⟨b, off, rfl, by simpa [Addr.add] using World.block_lt_of_cell? w _ c0, fun i hi => ?_⟩
      obtain ⟨q0, q1, _⟩ := hQ i (by omega)
      rw [WideShapes.add_plain, Nat.mul_one] at q0
      exact ⟨q0, q1⟩

theorem rd_clim {tI tS tL tR tC : TypeId} {f0 f1 g0 g1 g2 : Field} (hI : P.underlying tI = some (.int .i64)) (kI : P.cellsOf tI = 1) (hS : P.underlying tS = some (.struct #[f0, f1])) (kS : P.cellsOf tS = 2) (hf0 : f0.type = tI ∧ f0.offset = 0) (hf1 : f1.type = tI ∧ f1.offset = 1) (hL : P.underlying tL = some (.slice tS)) (kL : P.cellsOf tL = 1) (hR : P.underlying tR = some (.slice tL)) (kR : P.cellsOf tR = 1)
    (hC : P.underlying tC = some (.struct #[g0, g1, g2])) (kC : P.cellsOf tC = 3) (hg0 : g0.type = tI ∧ g0.offset = 0) (hg1 : g1.type = tR ∧ g1.offset = 1) (hg2 : g2.type = tR ∧ g2.offset = 2) {v : Value} {d : DataW H} {ps : List MemPlace}
    (hv : Value.okWide P w .any base tC v) (h : DataW.Trod enc P w 0 spare held tC v d ps) :
    ∃ C : Clim, v = .agg #[.int .i64 C.days, .slice C.aA C.nA C.cA, .slice C.aW C.nW C.cW] ∧ C.In w ∧ In64 C.days ∧ C.nA ≤ maxLen ∧ C.nW ≤ maxLen ∧ (∀ i, i < C.nA → (C.RA i).n ≤ maxLen) ∧ ∀ i, i < C.nW → (C.RW i).n ≤ maxLen := by
  obtain ⟨l, rfl, hl⟩ := agg_of hC hv
  obtain ⟨n, hn⟩ := h
  rw [hl] at hn
  obtain ⟨xs, n', _, _, hl, hxl, hf⟩ := DataW.trod_struct hC hn
  have hl2 : l.length = 3 := hl.trans kC
  match l, hl2, xs, hxl with
  | [c0, c1, c2], _, [y0, y1, y2], _ =>
    have h0 := hf 0 g0 rfl
    have h1 := hf 1 g1 rfl
    have h2 := hf 2 g2 rfl
    rw [hg0.1, hg0.2, kI] at h0
    rw [hg1.1, hg1.2, kR] at h1
    rw [hg2.1, hg2.2, kR] at h2
    obtain ⟨z, e0, _, w0⟩ := DataW.trod_int hI (h0 : _ = some y0)
    obtain ⟨aA, nA, cA, RA, rfl, p1, p2, p3, p4⟩ := rd_rows' hI kI hS kS hf0 hf1 hL kL hR (h1 : DataW.trod _ _ _ _ _ _ _ _ [c1] = some y1)
    obtain ⟨aW, nW, cW, RW, rfl, q1, q2, q3, q4⟩ := rd_rows' hI kI hS kS hf0 hf1 hL kL hR (h2 : DataW.trod _ _ _ _ _ _ _ _ [c2] = some y2)
    simp at e0
    exact ⟨⟨z, aA, nA, cA, aW, nW, cW, RA, RW⟩, by rw [e0], ⟨p3, q3⟩, in64_of w0, Nat.le_trans p1 p2, Nat.le_trans q1 q2, p4, q4⟩
end
end Go.Proofs.YtjgnafhbeekebaaGreat.L7

namespace Go.Proofs.YtjgnafhbeekebaaGreat.L7
open Go.RowKit

attribute [local go_sem] gw_cell gw_frozen gw_size

def strV (x : Cont) : Int × Int := if contB x = true then (strLo x, strHi x) else (0, 0)
def strE (x : Cont) : Int := if contB x = true then 0 else 1
set_option maxRecDepth 100000 in
set_option maxHeartbeats 1000000 in
theorem Strength_any (x : Cont) (w : World) :
    Calls Tryz.prog 26 #[x.val] w fun e w' => e = .returned (.tuple #[.agg #[.int .i64 (strV x).1, .int .i64 (strV x).2], .int .i64 (strE x)]) ∧ Below w.heap.size w w' := by
  cases hx : contB x with
  | true =>
    rw [show strV x = (strLo x, strHi x) from if_pos hx, show strE x = 0 from if_pos hx]
    dsimp only
    have SV := fun W => strength_any x W hx
    have HX := Lib.hid hx; clear hx
    have HS := Lib.hid SV; clear SV
    unfold Cont.val at HS ⊢
    obtain ⟨W1, hW1⟩ : ∃ W1, (w.alloc (.cells #[.int .i64 x.day, .int .i64 x.alo, .int .i64 x.ahi, .int .i64 x.wlo, .int .i64 x.whi] 32)).alloc (.cells #[.int .i64 0, .int .i64 0] 27) = W1 := ⟨_, rfl⟩
    have hBc : Below w.heap.size w W1 := by rw [← hW1]; exact (below_alloc _ _).alloc (by simp) _
    have zc0 : W1.heap[w.heap.size]? = some (.cells #[.int .i64 x.day, .int .i64 x.alo, .int .i64 x.ahi, .int .i64 x.wlo, .int .i64 x.whi] 32 (0, 0)) := by rw [← hW1]; exact alloc_keep (alloc_at rfl)
    have zc1 : W1.heap[w.heap.size + 1]? = some (.cells #[.int .i64 0, .int .i64 0] 27 (0, 0)) := by rw [← hW1]; exact alloc_at (by simp)
    have c00 : W1.cell? ⟨w.heap.size, 0, none⟩ = some (.int .i64 x.day) := cell_of_block zc0 0 (by simp)
    have c01 : W1.cell? ⟨w.heap.size, 1, none⟩ = some (.int .i64 x.alo) := cell_of_block zc0 1 (by simp)
    have c02 : W1.cell? ⟨w.heap.size, 2, none⟩ = some (.int .i64 x.ahi) := cell_of_block zc0 2 (by simp)
    have c03 : W1.cell? ⟨w.heap.size, 3, none⟩ = some (.int .i64 x.wlo) := cell_of_block zc0 3 (by simp)
    have c04 : W1.cell? ⟨w.heap.size, 4, none⟩ = some (.int .i64 x.whi) := cell_of_block zc0 4 (by simp)
    have c10 : W1.cell? ⟨w.heap.size + 1, 0, none⟩ = some (.int .i64 0) := cell_of_block zc1 0 (by simp)
    have c11 : W1.cell? ⟨w.heap.size + 1, 1, none⟩ = some (.int .i64 0) := cell_of_block zc1 1 (by simp)
    have lc0 := (Array.getElem?_eq_some_iff.1 zc0).1
    have lc1 := (Array.getElem?_eq_some_iff.1 zc1).1
    have fc10 := frozen_of_block zc1 0
    have fc11 := frozen_of_block zc1 1
    clear zc0 zc1
    have HBc := Lib.hid hBc; clear hBc
    have HWc := Lib.hid hW1; clear hW1
    generalize strLo x = A at *
    generalize strHi x = B at *
    go_enter Tryz.func26, Tryz.ntmps26
    go_wp2_with fail
    rw [HWc.out]
    go_wp2_with fail
    refine (Calls.grown (isContent_b x _ HX.out)).mono ?_
    rintro e w1 ⟨rfl, z1, rfl⟩
    go_wp2_with fail
    refine (Calls.gw_of (HS.out _)).mono ?_
    rintro e w1 ⟨rfl, z2, rfl⟩
    go_wp2_with fail
    refine bodyPost_ret (v := .tuple #[.agg #[.int .i64 A, .int .i64 B], .int .i64 0]) (by simp [results, Tryz.results26, go_sem, *]) rfl ⟨rfl, ?_⟩
    exact ((HBc.out.gw z2).setCell (by simp) _).setCell (by simp) _
  | false =>
    rw [show strV x = (0, 0) from if_neg (by rw [hx]; simp), show strE x = 1 from if_neg (by rw [hx]; simp)]
    dsimp only
    have HX := Lib.hid hx; clear hx
    unfold Cont.val
    obtain ⟨W1, hW1⟩ : ∃ W1, (w.alloc (.cells #[.int .i64 x.day, .int .i64 x.alo, .int .i64 x.ahi, .int .i64 x.wlo, .int .i64 x.whi] 32)).alloc (.cells #[.int .i64 0, .int .i64 0] 27) = W1 := ⟨_, rfl⟩
    have hBc : Below w.heap.size w W1 := by rw [← hW1]; exact (below_alloc _ _).alloc (by simp) _
    have zc0 : W1.heap[w.heap.size]? = some (.cells #[.int .i64 x.day, .int .i64 x.alo, .int .i64 x.ahi, .int .i64 x.wlo, .int .i64 x.whi] 32 (0, 0)) := by rw [← hW1]; exact alloc_keep (alloc_at rfl)
    have zc1 : W1.heap[w.heap.size + 1]? = some (.cells #[.int .i64 0, .int .i64 0] 27 (0, 0)) := by rw [← hW1]; exact alloc_at (by simp)
    have c00 : W1.cell? ⟨w.heap.size, 0, none⟩ = some (.int .i64 x.day) := cell_of_block zc0 0 (by simp)
    have c01 : W1.cell? ⟨w.heap.size, 1, none⟩ = some (.int .i64 x.alo) := cell_of_block zc0 1 (by simp)
    have c02 : W1.cell? ⟨w.heap.size, 2, none⟩ = some (.int .i64 x.ahi) := cell_of_block zc0 2 (by simp)
    have c03 : W1.cell? ⟨w.heap.size, 3, none⟩ = some (.int .i64 x.wlo) := cell_of_block zc0 3 (by simp)
    have c04 : W1.cell? ⟨w.heap.size, 4, none⟩ = some (.int .i64 x.whi) := cell_of_block zc0 4 (by simp)
    have c10 : W1.cell? ⟨w.heap.size + 1, 0, none⟩ = some (.int .i64 0) := cell_of_block zc1 0 (by simp)
    have c11 : W1.cell? ⟨w.heap.size + 1, 1, none⟩ = some (.int .i64 0) := cell_of_block zc1 1 (by simp)
    have lc0 := (Array.getElem?_eq_some_iff.1 zc0).1
    have lc1 := (Array.getElem?_eq_some_iff.1 zc1).1
    have fc10 := frozen_of_block zc1 0
    have fc11 := frozen_of_block zc1 1
    clear zc0 zc1
    have HBc := Lib.hid hBc; clear hBc
    have HWc := Lib.hid hW1; clear hW1
    go_enter Tryz.func26, Tryz.ntmps26
    go_wp2_with fail
    rw [HWc.out]
    go_wp2_with fail
    refine (Calls.grown (isContent_b x _ HX.out)).mono ?_
    rintro e w1 ⟨rfl, z1, rfl⟩
    go_wp2_with fail
    refine bodyPost_ret (v := .tuple #[.agg #[.int .i64 0, .int .i64 0], .int .i64 1]) (by simp [results, Tryz.results26, go_sem, *]) rfl ⟨rfl, ?_⟩
    exact ((HBc.out.gw z1).setCell (by simp) _).setCell (by simp) _

end Go.Proofs.YtjgnafhbeekebaaGreat.L7
