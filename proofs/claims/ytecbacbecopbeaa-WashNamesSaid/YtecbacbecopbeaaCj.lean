/- Contract of the closure of Cool. No conditions beyond each theorem's own. -/
import Derived.Test.YtecbacbecopbeaaCi
import Derived.Test.YtecbacbecopbeaaBk
import Derived.Maps.AppendAt
set_option linter.unusedVariables false
set_option linter.unusedSimpArgs false
set_option linter.unusedSectionVars false
set_option linter.constructorNameAsVariable false
namespace Go.Proofs.Ytecbacbecopbeaa
open Go.RowKit

attribute [local go_sem] gw_cell gw_frozen gw_size

/-- the boxes that the closure shares -/
structure Bx where
  gl : Nat
  gn : Nat
  gh : Nat
  gb : Nat
  gc : Nat
  gy : Nat
  gm : Nat
  gt : Nat
structure Bx.Ok (q : Bx) (n0 D : Nat) : Prop where
  o1 : n0 ≤ q.gy
  o2 : q.gy < q.gc
  o3 : q.gc < q.gh
  o4 : q.gh < q.gm
  o5 : q.gm < q.gb
  o6 : q.gb < q.gn
  o7 : q.gn < q.gl
  o8 : q.gl < q.gt
  o9 : D = q.gt + 1
def BestAt (D : Nat) (o : Option Nat) (w : World) (a : Option Addr) (l : List Nat) : Prop :=
  l = [] ∨ ∃ b, a = some ⟨b, 0, none⟩ ∧ D ≤ b ∧ b < w.heap.size ∧ some b ≠ o ∧ ∀ i, i < l.length → w.cell? ⟨b, i, none⟩ = some (.int .i64 ((l.getD i 0 : Nat) : Int))
theorem BestAt.of {D : Nat} {o : Option Nat} {w : World} {a : Option Addr} {l : List Nat} {n c : Nat} (h : RowN w n a l c) (hD : D ≤ n) (ho : ∀ b, o = some b → b < n) : BestAt D o w a l := by
  rcases h.form with ⟨_, rfl, _⟩ | ⟨g, rfl, h1, h2⟩
  · exact .inl rfl
  · refine .inr ⟨g, rfl, by omega, h2, fun e => by have := ho g e.symm; omega, fun i hi => ?_⟩
    have := h.cells (g := g) rfl i (.int .i64 ((l.getD i 0 : Nat) : Int)) (by simp [natsV, List.getD, hi])
    rw [addr_add] at this
    simpa using this
theorem BestAt.ints {D : Nat} {o : Option Nat} {w : World} {a : Option Addr} {l : List Nat} (h : BestAt D o w a l) : IntsAt w a l.length (fun i => ((l.getD i 0 : Nat) : Int)) := by
  rcases h with rfl | ⟨b, rfl, _, h2, _, h4⟩
  · exact .inl rfl
  · exact .inr ⟨b, 0, rfl, h2, fun i hi => by have := h4 i hi; simpa using this⟩
/-- the state of the search -/
structure TS (w0 : World) (c : Ctx) (q : Bx) (D hours : Nat) (aS : Option Addr) (cS : Nat) (o : Option Nat) (now best : List Nat) (least : Nat) (w : World) : Prop where
  low : Below w0.heap.size w0 w
  xl : w.heap[q.gl]? = some (.cells #[.int .i64 (least : Int)] 3 (0, 0))
  xn : ∃ a cN, w.heap[q.gn]? = some (.cells #[.slice a now.length cN] 33 (0, 0)) ∧ RowN w D a now cN ∧ (Value.slice a now.length cN).ownBlock = o
  xb : ∃ a cB, w.heap[q.gb]? = some (.cells #[.slice a best.length cB] 33 (0, 0)) ∧ BestAt D o w a best
  xh : w.heap[q.gh]? = some (.cells #[.int .i64 (hours : Int)] 3 (0, 0))
  xc : w.heap[q.gc]? = some (.cells #[.slice aS c.k cS] 34 (0, 0))
  xy : w.heap[q.gy]? = some (.cells #[.slice c.y.aT c.y.nT c.y.cT, .slice c.y.aR c.y.nR c.y.cR, .int .i64 c.y.sl, .int .i64 c.y.sh, .int .i64 c.y.gl, .int .i64 c.y.gh, .int .i64 c.y.hl, .int .i64 c.y.hh] 36 (0, 0))
  xm : w.heap[q.gm]? = some (.cells #[.int .i64 c.ll, .int .i64 c.lh] 23 (0, 0))
  xt : w.heap[q.gt]? = some (.cells #[.func (.func 80) #[] #[.pointer (some ⟨q.gl, 0, none⟩), .pointer (some ⟨q.gn, 0, none⟩), .pointer (some ⟨q.gh, 0, none⟩), .pointer (some ⟨q.gb, 0, none⟩), .pointer (some ⟨q.gc, 0, none⟩), .pointer (some ⟨q.gy, 0, none⟩), .pointer (some ⟨q.gm, 0, none⟩), .pointer (some ⟨q.gt, 0, none⟩)]] 101 (0, 0))
/-- what a call leaves as it was -/
structure TK (q : Bx) (o : Option Nat) (w w' : World) (o' : Option Nat) : Prop where
  size : w.heap.size ≤ w'.heap.size
  kept : ∀ b, b < w.heap.size → b ≠ q.gl → b ≠ q.gn → b ≠ q.gb → some b ≠ o → w'.heap[b]? = w.heap[b]?
  own : o' = o ∨ ∀ b, o' = some b → w.heap.size ≤ b
theorem TK.refl (q : Bx) (o : Option Nat) (w : World) : TK q o w w o := ⟨Nat.le_refl _, fun _ _ _ _ _ _ => rfl, .inl rfl⟩
theorem TK.trans {q : Bx} {o o1 o2 : Option Nat} {w w1 w2 : World} (h : TK q o w w1 o1) (g : TK q o1 w1 w2 o2) : TK q o w w2 o2 := by
  refine ⟨Nat.le_trans h.size g.size, fun b hb h1 h2 h3 h4 => ?_, ?_⟩
  · refine (g.kept b (Nat.lt_of_lt_of_le hb h.size) h1 h2 h3 ?_).trans (h.kept b hb h1 h2 h3 h4)
    rcases h.own with e | e
    · rw [e]; exact h4
    · intro e2; have := e b e2.symm; omega
  · rcases g.own with e | e
    · rw [e]; exact h.own
    · exact .inr fun b hb => Nat.le_trans h.size (e b hb)
theorem TK.below {q : Bx} {o : Option Nat} {w w' : World} (h : Below w.heap.size w w') : TK q o w w' o := ⟨h.size, fun b hb _ _ _ _ => h.block b hb, .inl rfl⟩
theorem TS.below {w0 : World} {c : Ctx} {q : Bx} {D hours cS : Nat} {aS : Option Addr} {o : Option Nat} {now best : List Nat} {least : Nat} {w w' : World} (h : TS w0 c q D hours aS cS o now best least w) (hb : Below w.heap.size w w') : TS w0 c q D hours aS cS o now best least w' := by
  obtain ⟨h1, h2, ⟨a, cN, h3, h4, h5⟩, ⟨a', cB, h6, h7⟩, h8, h9, h10, h11, h12⟩ := h
  have k : ∀ {g : Nat} {x : Obj}, w.heap[g]? = some x → w'.heap[g]? = some x := fun hx => (hb.block _ (Array.getElem?_eq_some_iff.1 hx).1).trans hx
  refine ⟨thru hb h1, k h2, ⟨a, cN, k h3, own_below h4 hb, h5⟩, ⟨a', cB, k h6, ?_⟩, k h8, k h9, k h10, k h11, k h12⟩
  rcases h7 with h | ⟨b, g1, g2, g3, g4, g5⟩
  · exact .inl h
  · exact .inr ⟨b, g1, g2, Nat.lt_of_lt_of_le g3 hb.size, g4, fun i hi => (hb.cell (p := ⟨b, i, none⟩) g3).trans (g5 i hi)⟩
theorem own_lt {w : World} {D c : Nat} {a : Option Addr} {l : List Nat} {o : Option Nat} (h : RowN w D a l c) (ho : (Value.slice a l.length c).ownBlock = o) : ∀ b, o = some b → D ≤ b ∧ b < w.heap.size := fun b hb => World.ownsRow.lt h b (ho.trans hb)
/-- a store into one of the boxes, other blocks as they were -/
theorem BestAt.grown {D B : Nat} {o : Option Nat} {w w' : World} {a : Option Addr} {l : List Nat} (h : BestAt D o w a l) (hg : w.grownBy w' (some B)) (hB : B < D) : BestAt D o w' a l := by
  rcases h with h | ⟨b, g1, g2, g3, g4, g5⟩
  · exact .inl h
  · exact .inr ⟨b, g1, g2, Nat.lt_of_lt_of_le g3 hg.size, g4, fun i hi => hg.cell (g5 i hi) (by simp; omega)⟩
theorem BestAt.row {D : Nat} {o : Option Nat} {w w' : World} {a : Option Addr} {l : List Nat} (h : BestAt D o w a l) (hg : w.grownBy w' o) : BestAt D o w' a l := by
  rcases h with h | ⟨b, g1, g2, g3, g4, g5⟩
  · exact .inl h
  · exact .inr ⟨b, g1, g2, Nat.lt_of_lt_of_le g3 hg.size, g4, fun i hi => hg.cell (g5 i hi) g4⟩
theorem BestAt.own {D : Nat} {o o' : Option Nat} {w : World} {a : Option Addr} {l : List Nat} (h : BestAt D o w a l) (ho : o' = o ∨ ∀ b, o' = some b → w.heap.size ≤ b) : BestAt D o' w a l := by
  rcases h with h | ⟨b, g1, g2, g3, g4, g5⟩
  · exact .inl h
  · refine .inr ⟨b, g1, g2, g3, ?_, g5⟩
    rcases ho with e | e
    · rw [e]; exact g4
    · intro e2; have := e b e2.symm; omega

theorem RowN.cap {w : World} {D c : Nat} {a : Addr} {l : List Nat} (h : RowN w D (some a) l c) : l.length ≤ c := by
  rcases h.2 with ⟨hv, _⟩ | ⟨g, cap, cur, hv, _, _, h4, _⟩
  · cases hv
  · simp only [Value.slice.injEq] at hv
    rw [hv.2.2]; exact h4
theorem row_first {g n c : Nat} (h : n ≤ c) (h0 : 0 < c) (m : Nat) (hm : n ≤ m) : ∀ w, (Instr.slice 33 (.slice (some ⟨g, 0, none⟩) m c) none (some (.int .i64 (n : Int))) none).run Try.prog w = .ok (.slice (some ⟨g, 0, none⟩) n c) w := fun w => by
  have ht : Try.prog.underlying 33 = some (.slice (Try.prog.elem 33)) := by kernel_rfl
  have hs : ∀ w, (sizeOf (Try.prog.elem 33)).run Try.prog w = .ok 1 w := fun _ => by kernel_rfl
  rw [run_slice_h w 33 (some ⟨g, 0, none⟩) m c ht .i64 n (by omega) (by omega), hs w]
  have hc : ¬ c = 0 := by omega
  simp [Result.andThen, sliced, hc, WideShapes.add_plain]
theorem own_ne {w : World} {D c : Nat} {a : Option Addr} {l : List Nat} {o : Option Nat} (h : RowN w D a l c) (ho : (Value.slice a l.length c).ownBlock = o) {g : Nat} (hg : g < D) : some g ≠ o := fun e => by have := own_lt h ho g e.symm; omega
/-- the best so far is now what there is -/
theorem TS.found {w0 : World} {c : Ctx} {q : Bx} {D hours cS : Nat} {aS : Option Addr} {o : Option Nat} {now best : List Nat} {least : Nat} {w W : World} (hq : q.Ok w0.heap.size D) (T : TS w0 c q D hours aS cS o now best least w)
    {a' : Option Addr} {c' n : Nat} (hr : RowN w n a' now c') (hD : D ≤ n) (ho : ∀ b, o = some b → b < n) (s : Nat) (hW : (w.setCell ⟨q.gb, 0, none⟩ (.slice a' now.length c')).setCell ⟨q.gl, 0, none⟩ (.int .i64 (s : Int)) = W) :
    TS w0 c q D hours aS cS o now now s W ∧ TK q o w W o := by
  obtain ⟨o1, o2, o3, o4, o5, o6, o7, o8, o9⟩ := hq
  obtain ⟨h1, h2, ⟨a, cN, h3, h4, h5⟩, ⟨a2, cB, h6, h7⟩, h8, h9, h10, h11, h12⟩ := T
  subst hW
  have g1 := grownBy_set w q.gb 0 (.slice a' now.length c')
  have g2 := grownBy_set (w.setCell ⟨q.gb, 0, none⟩ (.slice a' now.length c')) q.gl 0 (.int .i64 (s : Int))
  have k : ∀ {g : Nat} {x : Obj}, g ≠ q.gb → g ≠ q.gl → w.heap[g]? = some x → ((w.setCell ⟨q.gb, 0, none⟩ (.slice a' now.length c')).setCell ⟨q.gl, 0, none⟩ (.int .i64 (s : Int))).heap[g]? = some x := fun n1 n2 hx =>
    (g2.block _ (Nat.lt_of_lt_of_le (Array.getElem?_eq_some_iff.1 hx).1 g1.size) (by simp; omega)).trans ((g1.block _ (Array.getElem?_eq_some_iff.1 hx).1 (by simp; omega)).trans hx)
  refine ⟨⟨(h1.grown g1 h1.size (fun b hb => by cases hb; omega)).grown g2 (Nat.le_trans h1.size g1.size) (fun b hb => by cases hb; omega), ?_, ⟨a, cN, k (by omega) (by omega) h3, ?_, h5⟩, ⟨a', c', ?_, ?_⟩, k (by omega) (by omega) h8, k (by omega) (by omega) h9, k (by omega) (by omega) h10, k (by omega) (by omega) h11, k (by omega) (by omega) h12⟩, ?_⟩
  · exact block_set 0 _ ((g1.block _ (Array.getElem?_eq_some_iff.1 h2).1 (by simp; omega)).trans h2)
  · exact World.ownsRow.kept (World.ownsRow.kept h4 g1 (.inr (fun e => by have := own_ne h4 h5 (g := q.gb) (by omega); rw [h5] at e; exact this e.symm))) g2 (.inr (fun e => by have := own_ne h4 h5 (g := q.gl) (by omega); rw [h5] at e; exact this e.symm))
  · exact (g2.block _ (Nat.lt_of_lt_of_le (Array.getElem?_eq_some_iff.1 h6).1 g1.size) (by simp; omega)).trans (block_set 0 _ h6)
  · exact ((BestAt.of hr hD ho).grown g1 (by omega)).grown g2 (by omega)
  · exact ⟨Nat.le_trans g1.size g2.size, fun b hb n1 n2 n3 _ => (g2.block b (Nat.lt_of_lt_of_le hb g1.size) (by simp; omega)).trans (g1.block b hb (by simp; omega)), .inl rfl⟩
/-- a choice more -/
theorem TS.push {w0 : World} {c : Ctx} {q : Bx} {D hours cS : Nat} {aS : Option Addr} {o : Option Nat} {now best : List Nat} {least : Nat} {w w9 W : World} (hq : q.Ok w0.heap.size D) (T : TS w0 c q D hours aS cS o now best least w)
    {a9 : Option Addr} {c9 x : Nat} (hr : RowN w9 D a9 (now ++ [x]) c9) (hg : w.grownBy w9 o) (hat : (Value.slice a9 (now ++ [x]).length c9).ownBlock = o ∨ (Value.slice a9 (now ++ [x]).length c9).ownBlock = some w.heap.size)
    (hW : w9.setCell ⟨q.gn, 0, none⟩ (.slice a9 (now ++ [x]).length c9) = W) :
    TS w0 c q D hours aS cS (Value.slice a9 (now ++ [x]).length c9).ownBlock (now ++ [x]) best least W ∧ TK q o w W (Value.slice a9 (now ++ [x]).length c9).ownBlock := by
  obtain ⟨o1, o2, o3, o4, o5, o6, o7, o8, o9⟩ := hq
  obtain ⟨h1, h2, ⟨a, cN, h3, h4, h5⟩, ⟨a2, cB, h6, h7⟩, h8, h9, h10, h11, h12⟩ := T
  subst hW
  have hol := own_lt h4 h5
  have g2 := grownBy_set w9 q.gn 0 (.slice a9 (now ++ [x]).length c9)
  have k0 : ∀ {g : Nat} {x : Obj}, g < D → w.heap[g]? = some x → w9.heap[g]? = some x := fun n1 hx => (hg.block _ (Array.getElem?_eq_some_iff.1 hx).1 (own_ne h4 h5 n1)).trans hx
  have k : ∀ {g : Nat} {y : Obj}, g < D → g ≠ q.gn → w.heap[g]? = some y → (w9.setCell ⟨q.gn, 0, none⟩ (.slice a9 (now ++ [x]).length c9)).heap[g]? = some y := fun n1 n2 hx =>
    (g2.block _ (Array.getElem?_eq_some_iff.1 (k0 n1 hx)).1 (by simp; omega)).trans (k0 n1 hx)
  have hown : (Value.slice a9 (now ++ [x]).length c9).ownBlock = o ∨ ∀ b, (Value.slice a9 (now ++ [x]).length c9).ownBlock = some b → w.heap.size ≤ b := by
    rcases hat with e | e
    · exact .inl e
    · exact .inr fun b hb => by rw [e] at hb; cases hb; exact Nat.le_refl _
  refine ⟨⟨(h1.grown hg h1.size (fun b hb => by have := hol b hb; omega)).grown g2 (Nat.le_trans h1.size hg.size) (fun b hb => by cases hb; omega), k (by omega) (by omega) h2, ⟨a9, c9, block_set 0 _ (k0 (by omega) h3), ?_, rfl⟩, ⟨a2, cB, k (by omega) (by omega) h6, ?_⟩, k (by omega) (by omega) h8, k (by omega) (by omega) h9, k (by omega) (by omega) h10, k (by omega) (by omega) h11, k (by omega) (by omega) h12⟩, ?_⟩
  · exact World.ownsRow.kept hr g2 (.inr (fun e => by have := own_ne hr rfl (g := q.gn) (by omega); exact this e.symm))
  · refine BestAt.grown ?_ g2 (by omega)
    have hb := h7.row hg
    rcases h7 with e | ⟨b, e1, e2, e3, e4, e5⟩
    · exact .inl e
    · refine .inr ⟨b, e1, e2, Nat.lt_of_lt_of_le e3 hg.size, fun e6 => ?_, fun i hi => hg.cell (e5 i hi) e4⟩
      rcases hown with e7 | e7
      · rw [e7] at e6; exact e4 e6
      · have := e7 b e6.symm; omega
  · refine ⟨Nat.le_trans hg.size g2.size, fun b hb n1 n2 n3 n4 => (g2.block b (Nat.lt_of_lt_of_le hb hg.size) (by simp; omega)).trans (hg.block b hb n4), hown⟩
/-- the last choice is given up -/
theorem TS.pop {w0 : World} {c : Ctx} {q : Bx} {D hours cS : Nat} {aS : Option Addr} {o : Option Nat} {now best : List Nat} {least : Nat} {w W : World} {g cN x : Nat} (hq : q.Ok w0.heap.size D) (T : TS w0 c q D hours aS cS o (now ++ [x]) best least w)
    (hn : w.heap[q.gn]? = some (.cells #[.slice (some ⟨g, 0, none⟩) (now ++ [x]).length cN] 33 (0, 0))) (hW : w.setCell ⟨q.gn, 0, none⟩ (.slice (some ⟨g, 0, none⟩) now.length cN) = W) :
    TS w0 c q D hours aS cS o now best least W ∧ TK q o w W o := by
  obtain ⟨o1, o2, o3, o4, o5, o6, o7, o8, o9⟩ := hq
  obtain ⟨h1, h2, ⟨a, cN', h3, h4, h5⟩, ⟨a2, cB, h6, h7⟩, h8, h9, h10, h11, h12⟩ := T
  subst hW
  rw [hn] at h3
  have e3 : some ⟨g, 0, none⟩ = a ∧ cN = cN' := by simpa using h3
  obtain ⟨rfl, rfl⟩ := e3
  have g2 := grownBy_set w q.gn 0 (.slice (some ⟨g, 0, none⟩) now.length cN)
  have k : ∀ {b : Nat} {y : Obj}, b ≠ q.gn → w.heap[b]? = some y → (w.setCell ⟨q.gn, 0, none⟩ (.slice (some ⟨g, 0, none⟩) now.length cN)).heap[b]? = some y := fun n2 hx => (g2.block _ (Array.getElem?_eq_some_iff.1 hx).1 (by simp; omega)).trans hx
  refine ⟨⟨h1.grown g2 h1.size (fun b hb => by cases hb; omega), k (by omega) h2, ⟨_, cN, block_set 0 _ hn, ?_, h5⟩, ⟨a2, cB, k (by omega) h6, h7.grown g2 (by omega)⟩, k (by omega) h8, k (by omega) h9, k (by omega) h10, k (by omega) h11, k (by omega) h12⟩, ⟨g2.size, fun b hb n1 n2 n3 _ => g2.block b hb (by simp; omega), .inl rfl⟩⟩
  exact World.ownsRow.kept (RowN.pop h4) g2 (.inr (fun e => by have := own_ne h4 h5 (g := q.gn) (by omega); rw [← h5] at this; exact this e.symm))

set_option maxRecDepth 100000 in
set_option maxHeartbeats 16000000 in
theorem try_any (w0 : World) (c : Ctx) (q : Bx) (D hours : Nat) (aS : Option Addr) (cS : Nat) (hq : q.Ok w0.heap.size D) (hI : c.y.In w0) (hf : c.y.Fits) (hB : ystB c.y = true) (hS : SpansAt w0 aS c.k c.F c.G) (hC : ∀ i, i < c.k → spanB (c.F i) (c.G i) 0 150000 = true) (hk : c.k ≤ 1000) (hh : hours ≤ 1000) :
    ∀ (h : Nat) (v : Vat) (sum : Nat) (now best : List Nat) (least : Nat) (o : Option Nat) (w : World), TS w0 c q D hours aS cS o now best least w → now.length + h = hours → vatB v = true → sum + h * c.k ≤ 1000 →
    Calls Try.prog 80 #[v.val, .int .i64 (sum : Int), .pointer (some ⟨q.gl, 0, none⟩), .pointer (some ⟨q.gn, 0, none⟩), .pointer (some ⟨q.gh, 0, none⟩), .pointer (some ⟨q.gb, 0, none⟩), .pointer (some ⟨q.gc, 0, none⟩), .pointer (some ⟨q.gy, 0, none⟩), .pointer (some ⟨q.gm, 0, none⟩), .pointer (some ⟨q.gt, 0, none⟩)] w fun e w' => (∃ x, e = .returned x) ∧ ∃ o', TS w0 c q D hours aS cS o' now (c.tryF h v sum now (best, least)).1 (c.tryF h v sum now (best, least)).2 w' ∧ TK q o w w' o' := by
  have hq0 := hq
  obtain ⟨o1, o2, o3, o4, o5, o6, o7, o8, o9⟩ := hq
  intro h
  induction h with
  | zero =>
    intro v sum now best least o w T hn hv hs
    have hn : now.length = hours := by omega
    obtain ⟨W1, hW1⟩ : ∃ z, w.alloc (.cells #[.int .i64 v.sl, .int .i64 v.sh, .int .i64 v.el, .int .i64 v.eh, .int .i64 v.pl, .int .i64 v.ph, .int .i64 v.gl, .int .i64 v.gh, .int .i64 v.ol, .int .i64 v.oh, .int .i64 v.tl, .int .i64 v.th, .int .i64 v.c] 38) = z := ⟨_, rfl⟩
    have b1 : Below w.heap.size w W1 := by rw [← hW1]; exact below_alloc _ _
    have HW1 := Lib.hid hW1; clear hW1
    have HT := Lib.hid T
    have T1 := Lib.hid (T.below b1); clear T
    obtain ⟨t1, t2, ⟨aN, cN, t3, t4, t5⟩, ⟨aB, cB, t6, t7⟩, t8, t9, t10, t11, t12⟩ := T1.out
    have ol := own_lt t4 t5
    have egl0 := cell_of_block t2 0 (by simp)
    have fgl := frozen_of_block t2 0
    have lgl := (Array.getElem?_eq_some_iff.1 t2).1
    have egn0 := cell_of_block t3 0 (by simp)
    have fgn := frozen_of_block t3 0
    have lgn := (Array.getElem?_eq_some_iff.1 t3).1
    have egb0 := cell_of_block t6 0 (by simp)
    have fgb := frozen_of_block t6 0
    have lgb := (Array.getElem?_eq_some_iff.1 t6).1
    have egh0 := cell_of_block t8 0 (by simp)
    have lgh := (Array.getElem?_eq_some_iff.1 t8).1
    have egc0 := cell_of_block t9 0 (by simp)
    have lgc := (Array.getElem?_eq_some_iff.1 t9).1
    have egm0 := cell_of_block t11 0 (by simp)
    have egm1 := cell_of_block t11 1 (by simp)
    have lgm := (Array.getElem?_eq_some_iff.1 t11).1
    have egt0 := cell_of_block t12 0 (by simp)
    have lgt := (Array.getElem?_eq_some_iff.1 t12).1
    by_cases hp : least ≤ sum
    · have e : c.tryF 0 v sum now (best, least) = (best, least) := by unfold Ctx.tryF; rw [if_pos hp]
      rw [e]
      have hpi : (least : Int) ≤ (sum : Int) := by omega
      clear e
      unfold Vat.val
      go_enter Try.func80, Try.ntmps80
      go_upto_region 1 with (fail)
      rw [HW1.out]
      go_wp2_with fail
      refine bodyPost_ret (v := .tuple #[]) (by simp [results, Try.results80, go_sem]) rfl ⟨⟨_, rfl⟩, o, T1.out, TK.below b1⟩
    · have e : c.tryF 0 v sum now (best, least) = (now, sum) := by unfold Ctx.tryF; rw [if_neg hp]
      rw [e]
      have hpi : ¬ (least : Int) ≤ (sum : Int) := by omega
      have hpd : decide ((least : Int) ≤ (sum : Int)) = false := by simp; omega
      have hne : ((now.length : Int) == (hours : Int)) = true := by simp; omega
      have sW1 := b1.size
      have CLO := Lib.hid (clone_any aN cN now D W1 t4 (by omega))
      have T0 := Lib.hid T1.out
      have OL := Lib.hid ol
      have DS : D ≤ W1.heap.size := by omega
      have HNL := Lib.hid hn
      clear hn e t1 t2 t3 t4 t5 t6 t7 t8 t9 t10 t11 t12 ol
      unfold Vat.val
      go_enter Try.func80, Try.ntmps80
      go_upto_region 1 with (fail)
      rw [HW1.out]
      go_wp2_with fail
      refine CLO.out.mono ?_
      rintro e w2 ⟨a2, c2, rfl, hr2, hb2⟩
      have T2 := Lib.hid (T0.out.below hb2)
      have HR2 := Lib.hid hr2
      have HB2 := Lib.hid hb2
      clear hr2 hb2
      obtain ⟨-, s2, -, ⟨ab, cb, s6, -⟩, -⟩ := T2.out
      have d0 := cell_of_block s2 0 (by simp)
      have d1 := cell_of_block s6 0 (by simp)
      have d2 := frozen_of_block s2 0
      have d3 := frozen_of_block s6 0
      have d4 := (Array.getElem?_eq_some_iff.1 s2).1
      have d5 := (Array.getElem?_eq_some_iff.1 s6).1
      have ne1 : q.gb ≠ q.gl := by omega
      have ne2 : q.gl ≠ q.gb := by omega
      clear s2 s6 egl0 egn0 egb0 egh0 egc0 egm0 egm1 egt0 fgl fgn fgb
      go_wp2_with fail
      obtain ⟨W5, hW5⟩ : ∃ z, (w2.setCell ⟨q.gb, 0, none⟩ (.slice a2 now.length c2)).setCell ⟨q.gl, 0, none⟩ (.int .i64 (sum : Int)) = z := ⟨_, rfl⟩
      rw [hW5]
      obtain ⟨T5, K5⟩ := TS.found hq0 T2.out HR2.out DS (fun b hb => (OL.out b hb).2) sum hW5
      refine bodyPost_ret (v := .tuple #[]) (by simp [results, Try.results80, go_sem]) rfl ⟨⟨_, rfl⟩, o, T5, ?_⟩
      exact ((TK.below b1).trans (TK.below HB2.out)).trans K5
  | succ h ih =>
    intro v sum now best least o w T hn hv hs
    have hnl : now.length < hours := by omega
    obtain ⟨W1, hW1⟩ : ∃ z, w.alloc (.cells #[.int .i64 v.sl, .int .i64 v.sh, .int .i64 v.el, .int .i64 v.eh, .int .i64 v.pl, .int .i64 v.ph, .int .i64 v.gl, .int .i64 v.gh, .int .i64 v.ol, .int .i64 v.oh, .int .i64 v.tl, .int .i64 v.th, .int .i64 v.c] 38) = z := ⟨_, rfl⟩
    have b1 : Below w.heap.size w W1 := by rw [← hW1]; exact below_alloc _ _
    have zv : W1.heap[w.heap.size]? = some (.cells #[.int .i64 v.sl, .int .i64 v.sh, .int .i64 v.el, .int .i64 v.eh, .int .i64 v.pl, .int .i64 v.ph, .int .i64 v.gl, .int .i64 v.gh, .int .i64 v.ol, .int .i64 v.oh, .int .i64 v.tl, .int .i64 v.th, .int .i64 v.c] 38 (0, 0)) := by rw [← hW1]; exact alloc_at rfl
    have ZV := Lib.hid zv; clear zv
    have HW1 := Lib.hid hW1; clear hW1
    have T1 := Lib.hid (T.below b1)
    obtain ⟨aw, cw, -, tw4, tw5⟩ := T.xn
    have OLW := Lib.hid (own_lt tw4 tw5)
    have Dw : D ≤ w.heap.size := by have := (Array.getElem?_eq_some_iff.1 T.xt).1; omega
    clear T tw4 tw5 aw cw
    obtain ⟨t1, t2, ⟨aN, cN, t3, t4, t5⟩, ⟨aB, cB, t6, t7⟩, t8, t9, t10, t11, t12⟩ := T1.out
    have sW1 := b1.size
    have B1 := Lib.hid b1; clear b1
    have egl0 := cell_of_block t2 0 (by simp)
    have fgl := frozen_of_block t2 0
    have lgl := (Array.getElem?_eq_some_iff.1 t2).1
    have egn0 := cell_of_block t3 0 (by simp)
    have fgn := frozen_of_block t3 0
    have lgn := (Array.getElem?_eq_some_iff.1 t3).1
    have egb0 := cell_of_block t6 0 (by simp)
    have fgb := frozen_of_block t6 0
    have lgb := (Array.getElem?_eq_some_iff.1 t6).1
    have egh0 := cell_of_block t8 0 (by simp)
    have lgh := (Array.getElem?_eq_some_iff.1 t8).1
    have egc0 := cell_of_block t9 0 (by simp)
    have lgc := (Array.getElem?_eq_some_iff.1 t9).1
    have egm0 := cell_of_block t11 0 (by simp)
    have egm1 := cell_of_block t11 1 (by simp)
    have lgm := (Array.getElem?_eq_some_iff.1 t11).1
    have egt0 := cell_of_block t12 0 (by simp)
    have lgt := (Array.getElem?_eq_some_iff.1 t12).1
    clear t1 t2 t3 t4 t5 t6 t7 t8 t9 t10 t11 t12
    have HV := Lib.hid hv; clear hv
    by_cases hp : least ≤ sum
    · have e : c.tryF (h + 1) v sum now (best, least) = (best, least) := by unfold Ctx.tryF; rw [if_pos hp]
      rw [e]
      have hpi : (least : Int) ≤ (sum : Int) := by omega
      clear e
      unfold Vat.val
      go_enter Try.func80, Try.ntmps80
      go_upto_region 1 with (fail)
      rw [HW1.out]
      go_wp2_with fail
      refine bodyPost_ret (v := .tuple #[]) (by simp [results, Try.results80, go_sem]) rfl ⟨⟨_, rfl⟩, o, T1.out, TK.below B1.out⟩
    · have hpd : decide ((least : Int) ≤ (sum : Int)) = false := by simp; omega
      have hne : ((now.length : Int) == (hours : Int)) = false := by simp; omega
      have HE := Lib.hid (show c.tryF (h + 1) v sum now (best, least) = loopF (fun i st => if c.ok v i = true then c.tryF h (c.next v i) (sum + i) (now ++ [i]) st else st) c.k (best, least) from by
        show (if least ≤ sum then (best, least) else _) = _
        rw [if_neg hp])
      have IH := Lib.hid ih; clear ih
      have HNL := Lib.hid hn; clear hn
      have HCC := Lib.hid hC; have HIC := Lib.hid hI; have HSC := Lib.hid hS; clear hC hI hS
      unfold Vat.val
      go_enter Try.func80, Try.ntmps80
      go_upto_region 1 with (fail)
      rw [HW1.out]
      go_wp2_with fail
      clear egl0 egn0 egb0 egh0 egc0 egm0 egm1 egt0 fgl fgn fgb lgl lgn lgb lgh lgc lgm lgt
      go_loopw [27] (fun i wr => ∃ (j : Nat) (o' : Option Nat), j ≤ c.k ∧ i = .int .i64 j ∧ Hid (TS w0 c q D hours aS cS o' now (loopF (fun i st => if c.ok v i = true then c.tryF h (c.next v i) (sum + i) (now ++ [i]) st else st) j (best, least)).1 (loopF (fun i st => if c.ok v i = true then c.tryF h (c.next v i) (sum + i) (now ++ [i]) st else st) j (best, least)).2 wr) ∧ Hid (TK q o W1 wr o')) (fun i _ => c.k - (intOf i).toNat)
      case atStart => exact ⟨0, o, Nat.zero_le _, rfl, T1, Lib.hid (TK.refl q o W1)⟩
      case round =>
        obtain ⟨j, o', hj, rfl, TJ, KJ⟩ := hrel
        by_cases hlt : j < c.k
        rotate_left
        · obtain rfl : j = c.k := by omega
          go_wp2_with fail
          refine bodyPost_end (results_none rfl _ _ _) rfl ⟨⟨_, rfl⟩, o', ?_, (TK.below B1.out).trans KJ.out⟩
          rw [HE.out]
          exact TJ.out
        obtain ⟨st, hst⟩ : ∃ s, loopF (fun i st => if c.ok v i = true then c.tryF h (c.next v i) (sum + i) (now ++ [i]) st else st) j (best, least) = s := ⟨_, rfl⟩
        rw [hst] at TJ
        have HLF := Lib.hid (show loopF (fun i st => if c.ok v i = true then c.tryF h (c.next v i) (sum + i) (now ++ [i]) st else st) (j + 1) (best, least) = if c.ok v j = true then c.tryF h (c.next v j) (sum + j) (now ++ [j]) st else st from by rw [← hst]; rfl); clear hst
        obtain ⟨aj, cj, -, tj4, tj5⟩ := TJ.out.xn
        have OLJ := Lib.hid (own_lt tj4 tj5)
        clear tj4 tj5 aj cj
        have ZVr := Lib.hid ((KJ.out.kept w.heap.size (Array.getElem?_eq_some_iff.1 ZV.out).1 (by omega) (by omega) (by omega) (fun e => by have := (OLW.out _ e.symm).2; omega)).trans ZV.out)
        obtain ⟨f, hf0⟩ : ∃ f, c.F j = f := ⟨_, rfl⟩
        obtain ⟨g, hg0⟩ : ∃ g, c.G j = g := ⟨_, rfl⟩
        have cc := HCC.out j hlt
        rw [hf0, hg0] at cc
        obtain ⟨c1, c2, c3⟩ := spanB_t.1 cc
        obtain ⟨NX, hNX⟩ : ∃ x, c.next v j = x := ⟨_, rfl⟩
        have NXE := Lib.hid (show c.y.hour v f g = NX by rw [← hf0, ← hg0]; exact hNX)
        have OKE := Lib.hid (show c.ok v j = (vatB NX && insB NX.tl NX.th c.ll c.lh) by rw [← hNX]; rfl)
        rw [hNX] at HLF
        clear cc hNX
        obtain ⟨bc, oc, rfl, lbc, hcc⟩ := HSC.out.resolve_left (by omega)
        obtain ⟨p0, p1⟩ := hcc j hlt
        rw [hf0] at p0
        rw [hg0] at p1
        clear hcc hf0 hg0
        have q0 := (TJ.out.low.cell (p := ⟨bc, oc + j * 2, none⟩) lbc).trans p0
        have q1 := (TJ.out.low.cell (p := ⟨bc, oc + j * 2 + 1, none⟩) lbc).trans p1
        have lbr : bc < wr.heap.size := Nat.lt_of_lt_of_le lbc TJ.out.low.size
        clear p0 p1
        have HBr := Lib.hid TJ.out.low
        go_upto_region 7 with (fail)
        obtain ⟨W2, hW2⟩ : ∃ W2, ((wr)).alloc (.cells #[.int .i64 f, .int .i64 g] 23) = W2 := ⟨_, rfl⟩
        have hbW2 : Below wr.heap.size wr W2 := by rw [← hW2]; exact (Below.refl _ wr).alloc (by simp [gw_size]) _
        have ZvW2 := Lib.hid ((hbW2.block _ (Array.getElem?_eq_some_iff.1 ZVr.out).1).trans ZVr.out)
        have zrW2 : W2.heap[wr.heap.size]? = some (.cells #[.int .i64 f, .int .i64 g] 23 (0, 0)) := by rw [← hW2]; exact alloc_at (by simp [gw_size])
        have ZrW2 := Lib.hid zrW2; clear zrW2
        have HBW2 := Lib.hid (thru hbW2 HBr.out)
        have SBW2 := Lib.hid hbW2; clear hbW2
        have HWW2 := Lib.hid hW2; clear hW2
        rw [HWW2.out]
        clear q0 q1
        have zsW2 := SBW2.out.size
        have ev0W2 : W2.cell? ⟨w.heap.size, 0, none⟩ = some (.int .i64 v.sl) := cell_of_block ZvW2.out 0 (by simp)
        have ev1W2 : W2.cell? ⟨w.heap.size, 1, none⟩ = some (.int .i64 v.sh) := cell_of_block ZvW2.out 1 (by simp)
        have ev2W2 : W2.cell? ⟨w.heap.size, 2, none⟩ = some (.int .i64 v.el) := cell_of_block ZvW2.out 2 (by simp)
        have ev3W2 : W2.cell? ⟨w.heap.size, 3, none⟩ = some (.int .i64 v.eh) := cell_of_block ZvW2.out 3 (by simp)
        have ev4W2 : W2.cell? ⟨w.heap.size, 4, none⟩ = some (.int .i64 v.pl) := cell_of_block ZvW2.out 4 (by simp)
        have ev5W2 : W2.cell? ⟨w.heap.size, 5, none⟩ = some (.int .i64 v.ph) := cell_of_block ZvW2.out 5 (by simp)
        have ev6W2 : W2.cell? ⟨w.heap.size, 6, none⟩ = some (.int .i64 v.gl) := cell_of_block ZvW2.out 6 (by simp)
        have ev7W2 : W2.cell? ⟨w.heap.size, 7, none⟩ = some (.int .i64 v.gh) := cell_of_block ZvW2.out 7 (by simp)
        have ev8W2 : W2.cell? ⟨w.heap.size, 8, none⟩ = some (.int .i64 v.ol) := cell_of_block ZvW2.out 8 (by simp)
        have ev9W2 : W2.cell? ⟨w.heap.size, 9, none⟩ = some (.int .i64 v.oh) := cell_of_block ZvW2.out 9 (by simp)
        have ev10W2 : W2.cell? ⟨w.heap.size, 10, none⟩ = some (.int .i64 v.tl) := cell_of_block ZvW2.out 10 (by simp)
        have ev11W2 : W2.cell? ⟨w.heap.size, 11, none⟩ = some (.int .i64 v.th) := cell_of_block ZvW2.out 11 (by simp)
        have ev12W2 : W2.cell? ⟨w.heap.size, 12, none⟩ = some (.int .i64 v.c) := cell_of_block ZvW2.out 12 (by simp)
        have lvW2 := (Array.getElem?_eq_some_iff.1 ZvW2.out).1
        have er0W2 : W2.cell? ⟨wr.heap.size, 0, none⟩ = some (.int .i64 f) := cell_of_block ZrW2.out 0 (by simp)
        have er1W2 : W2.cell? ⟨wr.heap.size, 1, none⟩ = some (.int .i64 g) := cell_of_block ZrW2.out 1 (by simp)
        have lrW2 := (Array.getElem?_eq_some_iff.1 ZrW2.out).1
        have T2 := Lib.hid (TJ.out.below SBW2.out)
        have HO := Lib.hid (fun W (hT : TS w0 c q D hours (some ⟨bc, oc, none⟩) cS o' now st.1 st.2 W) => hour_any q.gy c.y v f g W ⟨hT.xy, HIC.out.below hT.low⟩ hf hB HV.out c1 c2 c3)
        rw [NXE.out] at HO
        unfold Vat.val at HO
        go_wp2_with fail
        refine (Calls.grown (HO.out _ T2.out)).mono ?_
        rintro e w1 ⟨rfl, z1, rfl⟩
        go_upto_region 8 with (fail)
        obtain ⟨W3, hW3⟩ : ∃ W3, ((gw W2 z1)).alloc (.cells #[.int .i64 NX.sl, .int .i64 NX.sh, .int .i64 NX.el, .int .i64 NX.eh, .int .i64 NX.pl, .int .i64 NX.ph, .int .i64 NX.gl, .int .i64 NX.gh, .int .i64 NX.ol, .int .i64 NX.oh, .int .i64 NX.tl, .int .i64 NX.th, .int .i64 NX.c] 38) = W3 := ⟨_, rfl⟩
        have hbW3 : Below W2.heap.size W2 W3 := by rw [← hW3]; exact (below_gw W2 z1).alloc (by simp [gw_size]) _
        have ZvW3 := Lib.hid ((hbW3.block _ (Array.getElem?_eq_some_iff.1 ZvW2.out).1).trans ZvW2.out)
        have ZrW3 := Lib.hid ((hbW3.block _ (Array.getElem?_eq_some_iff.1 ZrW2.out).1).trans ZrW2.out)
        have zxW3 : W3.heap[W2.heap.size + z1.bs.size]? = some (.cells #[.int .i64 NX.sl, .int .i64 NX.sh, .int .i64 NX.el, .int .i64 NX.eh, .int .i64 NX.pl, .int .i64 NX.ph, .int .i64 NX.gl, .int .i64 NX.gh, .int .i64 NX.ol, .int .i64 NX.oh, .int .i64 NX.tl, .int .i64 NX.th, .int .i64 NX.c] 38 (0, 0)) := by rw [← hW3]; exact alloc_at (by simp [gw_size])
        have ZxW3 := Lib.hid zxW3; clear zxW3
        have HBW3 := Lib.hid (thru hbW3 HBW2.out)
        have SBW3 := Lib.hid hbW3; clear hbW3
        have HWW3 := Lib.hid hW3; clear hW3
        rw [HWW3.out]
        clear ev0W2 ev1W2 ev2W2 ev3W2 ev4W2 ev5W2 ev6W2 ev7W2 ev8W2 ev9W2 ev10W2 ev11W2 ev12W2 er0W2 er1W2
        have zsW3 := SBW3.out.size
        have ex0W3 : W3.cell? ⟨W2.heap.size + z1.bs.size, 0, none⟩ = some (.int .i64 NX.sl) := cell_of_block ZxW3.out 0 (by simp)
        have ex1W3 : W3.cell? ⟨W2.heap.size + z1.bs.size, 1, none⟩ = some (.int .i64 NX.sh) := cell_of_block ZxW3.out 1 (by simp)
        have ex2W3 : W3.cell? ⟨W2.heap.size + z1.bs.size, 2, none⟩ = some (.int .i64 NX.el) := cell_of_block ZxW3.out 2 (by simp)
        have ex3W3 : W3.cell? ⟨W2.heap.size + z1.bs.size, 3, none⟩ = some (.int .i64 NX.eh) := cell_of_block ZxW3.out 3 (by simp)
        have ex4W3 : W3.cell? ⟨W2.heap.size + z1.bs.size, 4, none⟩ = some (.int .i64 NX.pl) := cell_of_block ZxW3.out 4 (by simp)
        have ex5W3 : W3.cell? ⟨W2.heap.size + z1.bs.size, 5, none⟩ = some (.int .i64 NX.ph) := cell_of_block ZxW3.out 5 (by simp)
        have ex6W3 : W3.cell? ⟨W2.heap.size + z1.bs.size, 6, none⟩ = some (.int .i64 NX.gl) := cell_of_block ZxW3.out 6 (by simp)
        have ex7W3 : W3.cell? ⟨W2.heap.size + z1.bs.size, 7, none⟩ = some (.int .i64 NX.gh) := cell_of_block ZxW3.out 7 (by simp)
        have ex8W3 : W3.cell? ⟨W2.heap.size + z1.bs.size, 8, none⟩ = some (.int .i64 NX.ol) := cell_of_block ZxW3.out 8 (by simp)
        have ex9W3 : W3.cell? ⟨W2.heap.size + z1.bs.size, 9, none⟩ = some (.int .i64 NX.oh) := cell_of_block ZxW3.out 9 (by simp)
        have ex10W3 : W3.cell? ⟨W2.heap.size + z1.bs.size, 10, none⟩ = some (.int .i64 NX.tl) := cell_of_block ZxW3.out 10 (by simp)
        have ex11W3 : W3.cell? ⟨W2.heap.size + z1.bs.size, 11, none⟩ = some (.int .i64 NX.th) := cell_of_block ZxW3.out 11 (by simp)
        have ex12W3 : W3.cell? ⟨W2.heap.size + z1.bs.size, 12, none⟩ = some (.int .i64 NX.c) := cell_of_block ZxW3.out 12 (by simp)
        have lxW3 := (Array.getElem?_eq_some_iff.1 ZxW3.out).1
        have T3 := Lib.hid (T2.out.below SBW3.out)
        have KJ3 := Lib.hid ((KJ.out.trans (TK.below SBW2.out)).trans (TK.below SBW3.out))
        cases h1 : vatB NX with
        | false =>
          have HLG := HLF.out
          rw [if_neg (by rw [OKE.out, h1]; simp)] at HLG
          have H1 := Lib.hid h1; have HLH := Lib.hid HLG; clear h1 HLG
          go_wp2_with fail
          refine (Calls.grown (isVat_b NX _ H1.out)).mono ?_
          rintro e w1 ⟨rfl, z2, rfl⟩
          go_wp2_with fail
          go_roundw
          case rel => exact ⟨j + 1, o', by omega, by go_num, by rw [HLH.out]; exact Lib.hid (T3.out.below (below_gw W3 z2)), Lib.hid (KJ3.out.trans (TK.below (below_gw W3 z2)))⟩
          case measure => simp [intOf]; omega
        | true =>
          have tm := T3.out.xm
          have em0 := cell_of_block tm 0 (by simp)
          have em1 := cell_of_block tm 1 (by simp)
          have lm := (Array.getElem?_eq_some_iff.1 tm).1
          clear tm
          cases h2 : insB NX.tl NX.th c.ll c.lh with
          | false =>
            have HLG := HLF.out
            rw [if_neg (by rw [OKE.out, h1, h2]; simp)] at HLG
            have H1 := Lib.hid h1; have HLH := Lib.hid HLG
            have H2 := Lib.hid (fun W => h2 ▸ inside_any NX.tl NX.th c.ll c.lh W); clear h1 h2 HLG
            go_wp2_with fail
            refine (Calls.grown (isVat_b NX _ H1.out)).mono ?_
            rintro e w1 ⟨rfl, z2, rfl⟩
            go_wp2_with fail
            refine (Calls.gw_of (H2.out _)).mono ?_
            rintro e w1 ⟨rfl, z3, rfl⟩
            go_wp2_with fail
            go_roundw
            case rel => exact ⟨j + 1, o', by omega, by go_num, by rw [HLH.out]; exact Lib.hid (T3.out.below (below_gw W3 z3)), Lib.hid (KJ3.out.trans (TK.below (below_gw W3 z3)))⟩
            case measure => simp [intOf]; omega
          | true =>
            have HLG := HLF.out
            rw [if_pos (by rw [OKE.out, h1, h2]; rfl)] at HLG
            have H1 := Lib.hid h1; have HLH := Lib.hid HLG
            have H2 := Lib.hid (fun W => h2 ▸ inside_any NX.tl NX.th c.ll c.lh W); clear h1 h2 HLG
            go_wp2_with fail
            refine (Calls.grown (isVat_b NX _ H1.out)).mono ?_
            rintro e w1 ⟨rfl, z2, rfl⟩
            go_wp2_with fail
            refine (Calls.gw_of (H2.out _)).mono ?_
            rintro e w1 ⟨rfl, z3, rfl⟩
            go_upto_region 9 with (fail)
            obtain ⟨W4, hW4⟩ : ∃ W4, gw W3 z3 = W4 := ⟨_, rfl⟩
            have hbW4 : Below W3.heap.size W3 W4 := by rw [← hW4]; exact below_gw W3 z3
            have ZvW4 := Lib.hid ((hbW4.block _ (Array.getElem?_eq_some_iff.1 ZvW3.out).1).trans ZvW3.out)
            have ZrW4 := Lib.hid ((hbW4.block _ (Array.getElem?_eq_some_iff.1 ZrW3.out).1).trans ZrW3.out)
            have ZxW4 := Lib.hid ((hbW4.block _ (Array.getElem?_eq_some_iff.1 ZxW3.out).1).trans ZxW3.out)
            have HBW4 := Lib.hid (thru hbW4 HBW3.out)
            have SBW4 := Lib.hid hbW4; clear hbW4
            have HWW4 := Lib.hid hW4; clear hW4
            rw [HWW4.out]
            clear ex0W3 ex1W3 ex2W3 ex3W3 ex4W3 ex5W3 ex6W3 ex7W3 ex8W3 ex9W3 ex10W3 ex11W3 ex12W3 em0 em1 lm
            have zsW4 := SBW4.out.size
            have T4 := Lib.hid (T3.out.below SBW4.out)
            have KJ4 := Lib.hid (KJ3.out.trans (TK.below SBW4.out))
            obtain ⟨an, cn, n3, n4, n5⟩ := T4.out.xn
            have en0 := cell_of_block n3 0 (by simp)
            have ln := (Array.getElem?_eq_some_iff.1 n3).1
            have OL4 := Lib.hid (own_lt n4 n5)
            have N3 := Lib.hid n3; have N4 := Lib.hid n4; have N5 := Lib.hid n5; clear n3 n4 n5
            have LZ := (Array.getElem?_eq_some_iff.1 T4.out.xt).1
            have nl : now.length ≤ 1000 := by omega
            obtain ⟨j0, jh, jy0, jy1, jy2⟩ := info_parts infoInt
            have JI := Lib.hid jh; have Y0 := Lib.hid jy0; have Y1 := Lib.hid jy1; have Y2 := Lib.hid jy2
            clear jh jy0 jy1 jy2
            have ba := below_alloc W4 (.cells #[.int .i64 (j : Int)] 3)
            have TA := Lib.hid (T4.out.below ba)
            have KA := Lib.hid (KJ4.out.trans (TK.below ba))
            have NA := Lib.hid ((ba.block q.gn (Array.getElem?_eq_some_iff.1 N3.out).1).trans N3.out)
            have sa := ba.size
            clear ba
            go_upto_region 10 with (at_builtin; go_loud (refine wpList_append_own_at _ rfl _ _ 33 rfl D 3 j0 (.int .i64 0) 1 8 Try.underlying33 JI.out Y0.out Y1.out Y2.out rfl (by decide) _ now.length (natsV now) rfl (World.ownsRow.alloc N4.out _) ⟨W4.heap.size, 0, none⟩ 1 1 [.int .i64 (j : Int)] rfl rfl (news_lit _ _ _) (by simp [Value.oneCell']) (by unfold maxLen; omega) (by omega) (by simp; omega) ?_; intro v9 w9 hown9 hgrow9 _ hat9; obtain ⟨a9, c9, rfl⟩ := own_form hown9; have z9 := (hgrow9.block q.gn (Array.getElem?_eq_some_iff.1 NA.out).1 (own_ne N4.out rfl (g := q.gn) (by omega))).trans NA.out; have e9 := cell_of_block z9 0 (by simp); have f9 := frozen_of_block z9 0; have l9 := (Array.getElem?_eq_some_iff.1 z9).1))
            rw [natsV_push] at hown9
            have hl9 : (now ++ [j]).length = now.length + 1 := by simp
            rw [← hl9] at hown9 hat9
            have hgr : (W4.alloc (.cells #[.int .i64 (j : Int)] 3)).grownBy w9 o' := by rw [← N5.out]; exact hgrow9
            have hat : (Value.slice a9 (now ++ [j]).length c9).ownBlock = o' ∨ (Value.slice a9 (now ++ [j]).length c9).ownBlock = some (W4.alloc (.cells #[.int .i64 (j : Int)] 3)).heap.size := by rw [← N5.out]; exact hat9
            obtain ⟨W5, hW5⟩ : ∃ z, w9.setCell ⟨q.gn, 0, none⟩ (.slice a9 (now ++ [j]).length c9) = z := ⟨_, rfl⟩
            obtain ⟨t5, k5⟩ := TS.push hq0 TA.out hown9 hgr hat hW5
            rw [hl9] at hW5
            rw [hW5]
            obtain ⟨o5, ho5⟩ : ∃ z, (Value.slice a9 (now ++ [j]).length c9).ownBlock = z := ⟨_, rfl⟩
            rw [ho5] at t5 k5
            have T5 := Lib.hid t5; have K5 := Lib.hid (KA.out.trans k5); have k5h := Lib.hid k5
            clear t5 k5 hown9 hgrow9 hat9 hgr hat hW5 ho5 z9 e9 f9 l9 en0 ln
            have ix : D ≤ wr.heap.size := by have := (Array.getElem?_eq_some_iff.1 TJ.out.xt).1; omega
            have lx4 := (Array.getElem?_eq_some_iff.1 ZxW4.out).1
            have ZX5 := Lib.hid ((k5h.out.kept (W2.heap.size + z1.bs.size) (by omega) (by omega) (by omega) (by omega) (fun e => by have := (OLJ.out _ e.symm).2; omega)).trans (((below_alloc W4 (.cells #[.int .i64 (j : Int)] 3)).block (W2.heap.size + z1.bs.size) lx4).trans ZxW4.out))
            have x5_0 : W5.cell? ⟨W2.heap.size + z1.bs.size, 0, none⟩ = some (.int .i64 NX.sl) := cell_of_block ZX5.out 0 (by simp)
            have x5_1 : W5.cell? ⟨W2.heap.size + z1.bs.size, 1, none⟩ = some (.int .i64 NX.sh) := cell_of_block ZX5.out 1 (by simp)
            have x5_2 : W5.cell? ⟨W2.heap.size + z1.bs.size, 2, none⟩ = some (.int .i64 NX.el) := cell_of_block ZX5.out 2 (by simp)
            have x5_3 : W5.cell? ⟨W2.heap.size + z1.bs.size, 3, none⟩ = some (.int .i64 NX.eh) := cell_of_block ZX5.out 3 (by simp)
            have x5_4 : W5.cell? ⟨W2.heap.size + z1.bs.size, 4, none⟩ = some (.int .i64 NX.pl) := cell_of_block ZX5.out 4 (by simp)
            have x5_5 : W5.cell? ⟨W2.heap.size + z1.bs.size, 5, none⟩ = some (.int .i64 NX.ph) := cell_of_block ZX5.out 5 (by simp)
            have x5_6 : W5.cell? ⟨W2.heap.size + z1.bs.size, 6, none⟩ = some (.int .i64 NX.gl) := cell_of_block ZX5.out 6 (by simp)
            have x5_7 : W5.cell? ⟨W2.heap.size + z1.bs.size, 7, none⟩ = some (.int .i64 NX.gh) := cell_of_block ZX5.out 7 (by simp)
            have x5_8 : W5.cell? ⟨W2.heap.size + z1.bs.size, 8, none⟩ = some (.int .i64 NX.ol) := cell_of_block ZX5.out 8 (by simp)
            have x5_9 : W5.cell? ⟨W2.heap.size + z1.bs.size, 9, none⟩ = some (.int .i64 NX.oh) := cell_of_block ZX5.out 9 (by simp)
            have x5_10 : W5.cell? ⟨W2.heap.size + z1.bs.size, 10, none⟩ = some (.int .i64 NX.tl) := cell_of_block ZX5.out 10 (by simp)
            have x5_11 : W5.cell? ⟨W2.heap.size + z1.bs.size, 11, none⟩ = some (.int .i64 NX.th) := cell_of_block ZX5.out 11 (by simp)
            have x5_12 : W5.cell? ⟨W2.heap.size + z1.bs.size, 12, none⟩ = some (.int .i64 NX.c) := cell_of_block ZX5.out 12 (by simp)
            have lx5 := (Array.getElem?_eq_some_iff.1 ZX5.out).1
            have tt5 := T5.out.xt
            have et5 := cell_of_block tt5 0 (by simp)
            have lt5 := (Array.getElem?_eq_some_iff.1 tt5).1
            clear tt5
            have hs2 : sum + j + h * c.k ≤ 1000 := by have := hs; rw [Nat.succ_mul] at this; omega
            have HI := IH.out NX (sum + j) (now ++ [j]) st.1 st.2 o5 W5 T5.out (by rw [hl9]; have := HNL.out; omega) H1.out hs2
            rw [show ((sum + j : Nat) : Int) = (sum : Int) + (j : Int) by omega] at HI
            unfold Vat.val at HI
            have HI2 := Lib.hid HI
            have sjb : (sum : Int) + (j : Int) ≤ 1000 := by omega
            clear HI hs2
            go_wp2_with fail
            refine HI2.out.mono ?_
            rintro e W6 ⟨⟨x6, rfl⟩, o6, t6, k6⟩
            obtain ⟨a6, c6, m3, m4, m5⟩ := t6.xn
            rcases m4.form with ⟨-, e6, -⟩ | ⟨g6, rfl, -, -⟩
            · exact absurd e6 (by simp)
            have hc6 := m4.cap
            rw [hl9] at hc6
            have m3b := m3
            rw [hl9] at m3b
            have en6 := cell_of_block m3b 0 (by simp)
            have fn6 := frozen_of_block m3b 0
            have ln6 := (Array.getElem?_eq_some_iff.1 m3b).1
            have hsl := row_first (g := g6) (n := now.length) (c := c6) (by omega) (by omega) (now.length + 1) (by omega)
            have T6 := Lib.hid t6; have K6 := Lib.hid k6; have M3 := Lib.hid m3
            clear t6 k6 m3 m4 m5 m3b et5 lt5 lx5 x5_0 x5_1 x5_2 x5_3 x5_4 x5_5 x5_6 x5_7 x5_8 x5_9 x5_10 x5_11 x5_12
            go_wp2_with fail
            obtain ⟨W7, hW7⟩ : ∃ z, W6.setCell ⟨q.gn, 0, none⟩ (.slice (some ⟨g6, 0, none⟩) now.length c6) = z := ⟨_, rfl⟩
            obtain ⟨t7, k7⟩ := TS.pop hq0 T6.out M3.out hW7
            rw [hW7]
            have T7 := Lib.hid t7; have K7 := Lib.hid k7
            clear t7 k7 hW7 hsl en6 fn6
            go_roundw
            case rel => exact ⟨j + 1, o6, by omega, by go_num, by rw [HLH.out]; exact T7, Lib.hid (K5.out.trans (K6.out.trans K7.out))⟩
            case measure => simp [intOf]; omega
end Go.Proofs.Ytecbacbecopbeaa
