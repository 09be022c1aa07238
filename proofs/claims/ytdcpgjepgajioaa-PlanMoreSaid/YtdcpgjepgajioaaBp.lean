/- The state of the search: rows of numbers, boxes, what a call leaves as it was. No conditions beyond each theorem's own. -/
import Derived.Test.YtdcpgjepgajioaaBo
set_option linter.unusedVariables false
set_option linter.unusedSimpArgs false
set_option linter.unusedSectionVars false
set_option linter.constructorNameAsVariable false
namespace Go.Proofs.Ytdcpgjepgajioaa
open Go.RowKit

attribute [local go_sem] gw_cell gw_frozen gw_size

def natsV (l : List Nat) : List Value := l.map fun (i : Nat) => .int .i64 (i : Int)
theorem natsV_len (l : List Nat) : (natsV l).length = l.length * 1 := by simp [natsV]
theorem natsV_one (l : List Nat) : ∀ u ∈ natsV l, u.oneCell' = true := by
  intro u hu
  simp only [natsV, List.mem_map] at hu
  obtain ⟨i, _, rfl⟩ := hu
  rfl
theorem natsV_push (l : List Nat) (i : Nat) : natsV l ++ [.int .i64 (i : Int)] = natsV (l ++ [i]) := by simp [natsV]
/-- an owned row of numbers -/
def RowN (w : World) (base : Nat) (a : Option Addr) (l : List Nat) (c : Nat) : Prop := w.ownsRow base 3 1 (.slice a l.length c) l.length (natsV l)
theorem RowN.nil (w : World) (base : Nat) : RowN w base none [] 0 := World.ownsRow_nil _ _ _ _
theorem RowN.form {w : World} {base c : Nat} {a : Option Addr} {l : List Nat} (h : RowN w base a l c) : (a = none ∧ l = [] ∧ c = 0) ∨ ∃ g, a = some ⟨g, 0, none⟩ ∧ base ≤ g ∧ g < w.heap.size := by
  rcases h.2 with ⟨hv, hn⟩ | ⟨g, cap, cur, hv, h1, h2, _⟩
  · simp only [Value.slice.injEq] at hv
    exact .inl ⟨hv.1, List.eq_nil_of_length_eq_zero hn, hv.2.2⟩
  · simp only [Value.slice.injEq] at hv
    exact .inr ⟨g, hv.1, h1, (Array.getElem?_eq_some_iff.1 h2).1⟩
theorem RowN.news {w : World} {base c : Nat} {a : Option Addr} {l : List Nat} (h : RowN w base a l c) : l.length = 0 ∨ ∃ ad, a = some ad ∧ ∀ j u, (natsV l)[j]? = some u → w.cell? (ad.add j) = some u := by
  rcases h.form with ⟨_, rfl, _⟩ | ⟨g, rfl, _⟩
  · exact .inl rfl
  · exact .inr ⟨_, rfl, h.cells (g := g) rfl⟩
theorem RowN.ints {w : World} {base c : Nat} {a : Option Addr} {l : List Nat} (h : RowN w base a l c) : IntsAt w a l.length (fun i => ((l.getD i 0 : Nat) : Int)) := by
  rcases h.form with ⟨_, rfl, _⟩ | ⟨g, rfl, _, hg⟩
  · exact .inl rfl
  · refine .inr ⟨g, 0, rfl, hg, fun i hi => ?_⟩
    have := h.cells (g := g) rfl i (.int .i64 ((l.getD i 0 : Nat) : Int)) (by simp [natsV, List.getD, hi])
    rwa [addr_add] at this
/-- the row without its last number -/
theorem RowN.pop {w : World} {base c g : Nat} {l : List Nat} {x : Nat} (h : RowN w base (some ⟨g, 0, none⟩) (l ++ [x]) c) : RowN w base (some ⟨g, 0, none⟩) l c := by
  refine ⟨natsV_len l, ?_⟩
  rcases h.2 with ⟨hv, _⟩ | ⟨g', cap, cur, hv, h1, h2, h3, h4, h5, h6⟩
  · cases hv
  · cases hv
    refine .inr ⟨g, c, cur, rfl, h1, h2, by simp at h3; omega, h4, h5, ?_⟩
    have := congrArg (List.take l.length) h6
    rw [List.take_take] at this
    simp only [List.length_append, List.length_singleton, Nat.mul_one] at this
    rw [show min l.length (l.length + 1) = l.length by omega] at this
    rw [Nat.mul_one, this]
    simp [natsV]

/-- what the search finds -/
abbrev St := Option (List Nat × Int)
def stL : St → List Nat
  | none => []
  | some x => x.1
def stS : St → Int
  | none => 0
  | some x => x.2
def Otl.yrL (o : Otl) (i t : Nat) (laid : Int) (c : List Int) : List Int × Int := yearF o.A (o.V i t) o.nA laid anyRoom c
def Otl.yrH (o : Otl) (y : Lyg) (i t : Nat) (laid : Int) (c : List Int) : List Int × Int := yearF o.A (o.V i t) o.nA laid y.roomB c
def stepB (o : Otl) (y : Lyg) (t : Nat) (laid : Int) (low high : Nat → List Int) (i : Nat) : Bool := decide ((o.yrL i t laid (low i)).2 = 0) && decide ((o.yrH y i t laid (high i)).2 = 0)
def lowN (o : Otl) (t : Nat) (laid : Int) (low : Nat → List Int) (i : Nat) : List Int := lateF (parLo o) (o.yrL i t laid (low i)).1
def highN (o : Otl) (y : Lyg) (t : Nat) (laid : Int) (high : Nat → List Int) (i : Nat) : List Int := lateF (parHi o) (o.yrH y i t laid (high i)).1
def stopB (price : Int) : St → Bool
  | none => false
  | some x => decide (x.2 ≤ price)
def layN (stop : Nat → St → Bool) (f : Nat → St → St) : Nat → Nat → St → St
  | 0, _, st => st
  | k + 1, n, st => if stop n st = true then st else layN stop f k (n + 1) (f n st)
def tryF (o : Otl) (y : Lyg) (wt : Nat → Int) : Nat → (Nat → List Int) → (Nat → List Int) → Int → List Nat → St → St
  | 0, _, _, cost, now, _ => some (now, cost)
  | h + 1, low, high, cost, now, st =>
    layN (fun n st => stopB (cost + n * wt now.length) st)
      (fun n st => if allB o.nP (stepB o y now.length (n * y.lot) low high) = true then tryF o y wt h (lowN o now.length (n * y.lot) low) (highN o y now.length (n * y.lot) high) (cost + n * wt now.length) (now ++ [n]) st else st)
      (y.M now.length + 1).toNat 0 st

/-- the boxes that the closure shares -/
structure Bx where
  gn : Nat
  gy : Nat
  gb : Nat
  gs : Nat
  gf : Nat
  gw : Nat
  go : Nat
  gr : Nat
  gl : Nat
  gg : Nat
  gt : Nat
  gp : Nat
structure Bx.Ok (q : Bx) (n0 D : Nat) : Prop where
  o1 : n0 ≤ q.go
  o2 : q.go < q.gy
  o3 : q.gy < q.gw
  o4 : q.gw < q.gb
  o5 : q.gb < q.gs
  o6 : q.gs < q.gf
  o7 : q.gf < q.gp
  o8 : q.gp < q.gl
  o9 : q.gl < q.gg
  o10 : q.gg < q.gr
  o11 : q.gr < q.gn
  o12 : q.gn < q.gt
  o13 : D = q.gt + 1
def BestAt (D : Nat) (o : Option Nat) (w : World) (a : Option Addr) (l : List Nat) : Prop :=
  l = [] ∨ ∃ b, a = some ⟨b, 0, none⟩ ∧ D ≤ b ∧ b < w.heap.size ∧ some b ≠ o ∧ ∀ i, i < l.length → w.cell? ⟨b, i, none⟩ = some (.int .i64 ((l.getD i 0 : Nat) : Int))
theorem BestAt.of {D : Nat} {o : Option Nat} {w : World} {a : Option Addr} {l : List Nat} {n c : Nat} (h : RowN w n a l c) (hD : D ≤ n) (ho : ∀ b, o = some b → b < n) : BestAt D o w a l := by
  rcases h.form with ⟨_, rfl, _⟩ | ⟨g, rfl, h1, h2⟩
  · exact .inl rfl
  · refine .inr ⟨g, rfl, by omega, h2, fun e => by have := ho g e.symm; omega, fun i hi => ?_⟩
    have := h.cells (g := g) rfl i (.int .i64 ((l.getD i 0 : Nat) : Int)) (by simp [natsV, List.getD, hi])
    rw [addr_add] at this
    simpa using this
theorem BestAt.ints {D : Nat} {o : Option Nat} {w : World} {a : Option Addr} {l : List Nat} (h : BestAt D o w a l) : IntsAt w a l.length (fun i => ((l.getD i 0 : Nat) : Int)) := by
  rcases h with rfl | ⟨b, rfl, _, h2, _, h4⟩
  · exact .inl rfl
  · exact .inr ⟨b, 0, rfl, h2, fun i hi => by have := h4 i hi; simpa using this⟩
/-- the boxes of the search -/
structure TS (w0 : World) (o : Otl) (y : Lyg) (fw : Nat) (lw : Array Value) (q : Bx) (D : Nat) (r : Option Nat) (now : List Nat) (st : St) (w : World) : Prop where
  low : Below w0.heap.size w0 w
  xn : ∃ a cN, w.heap[q.gn]? = some (.cells #[.slice a now.length cN] 22 (0, 0)) ∧ RowN w D a now cN ∧ (Value.slice a now.length cN).ownBlock = r
  xb : ∃ a cB, w.heap[q.gb]? = some (.cells #[.slice a (stL st).length cB] 22 (0, 0)) ∧ BestAt D r w a (stL st) ∧ (st = none → a = none ∧ cB = 0)
  xs : w.heap[q.gs]? = some (.cells #[.int .i64 (stS st)] 3 (0, 0))
  xf : w.heap[q.gf]? = some (.cells #[.bool st.isSome] 4 (0, 0))
  xy : w.heap[q.gy]? = some (.cells y.cells 29 (0, 0))
  xo : w.heap[q.go]? = some (.cells o.cells 27 (0, 0))
  xp : w.heap[q.gp]? = some (.cells o.cells 27 (0, 0))
  xw : w.heap[q.gw]? = some (.cells #[.func (.func fw) #[] lw] 66 (0, 0))
  xr : w.heap[q.gr]? = some (.cells #[.func (.func 60) #[] #[.pointer (some ⟨q.gy, 0, none⟩)]] 72 (0, 0))
  xl : w.heap[q.gl]? = some (.cells #[.func (.func 53) #[] #[.pointer (some ⟨q.gp, 0, none⟩)]] 66 (0, 0))
  xg : w.heap[q.gg]? = some (.cells #[.func (.func 54) #[] #[.pointer (some ⟨q.gp, 0, none⟩)]] 66 (0, 0))
  xt : w.heap[q.gt]? = some (.cells #[.func (.func 61) #[] #[.pointer (some ⟨q.gn, 0, none⟩), .pointer (some ⟨q.gy, 0, none⟩), .pointer (some ⟨q.gb, 0, none⟩), .pointer (some ⟨q.gs, 0, none⟩), .pointer (some ⟨q.gf, 0, none⟩), .pointer (some ⟨q.gw, 0, none⟩), .pointer (some ⟨q.go, 0, none⟩), .pointer (some ⟨q.gr, 0, none⟩), .pointer (some ⟨q.gl, 0, none⟩), .pointer (some ⟨q.gg, 0, none⟩), .pointer (some ⟨q.gt, 0, none⟩)]] 92 (0, 0))
/-- what a call leaves as it was -/
structure TK (q : Bx) (r : Option Nat) (w w' : World) (r' : Option Nat) : Prop where
  size : w.heap.size ≤ w'.heap.size
  kept : ∀ b, b < w.heap.size → b ≠ q.gn → b ≠ q.gb → b ≠ q.gs → b ≠ q.gf → some b ≠ r → w'.heap[b]? = w.heap[b]?
  own : r' = r ∨ ∀ b, r' = some b → w.heap.size ≤ b
theorem TK.refl (q : Bx) (r : Option Nat) (w : World) : TK q r w w r := ⟨Nat.le_refl _, fun _ _ _ _ _ _ _ => rfl, .inl rfl⟩
theorem TK.trans {q : Bx} {r r1 r2 : Option Nat} {w w1 w2 : World} (h : TK q r w w1 r1) (g : TK q r1 w1 w2 r2) : TK q r w w2 r2 := by
  refine ⟨Nat.le_trans h.size g.size, fun b hb h1 h2 h3 h4 h5 => ?_, ?_⟩
  · refine (g.kept b (Nat.lt_of_lt_of_le hb h.size) h1 h2 h3 h4 ?_).trans (h.kept b hb h1 h2 h3 h4 h5)
    rcases h.own with e | e
    · rw [e]; exact h5
    · intro e2; have := e b e2.symm; omega
  · rcases g.own with e | e
    · rw [e]; exact h.own
    · exact .inr fun b hb => Nat.le_trans h.size (e b hb)
theorem TK.below {q : Bx} {r : Option Nat} {w w' : World} (h : Below w.heap.size w w') : TK q r w w' r := ⟨h.size, fun b hb _ _ _ _ _ => h.block b hb, .inl rfl⟩
theorem own_lt {w : World} {D c : Nat} {a : Option Addr} {l : List Nat} {o : Option Nat} (h : RowN w D a l c) (ho : (Value.slice a l.length c).ownBlock = o) : ∀ b, o = some b → D ≤ b ∧ b < w.heap.size := fun b hb => World.ownsRow.lt h b (ho.trans hb)
/-- a store into one of the boxes, other blocks as they were -/
theorem BestAt.grown {D B : Nat} {o : Option Nat} {w w' : World} {a : Option Addr} {l : List Nat} (h : BestAt D o w a l) (hg : w.grownBy w' (some B)) (hB : B < D) : BestAt D o w' a l := by
  rcases h with h | ⟨b, g1, g2, g3, g4, g5⟩
  · exact .inl h
  · exact .inr ⟨b, g1, g2, Nat.lt_of_lt_of_le g3 hg.size, g4, fun i hi => hg.cell (g5 i hi) (by simp; omega)⟩
theorem BestAt.row {D : Nat} {o : Option Nat} {w w' : World} {a : Option Addr} {l : List Nat} (h : BestAt D o w a l) (hg : w.grownBy w' o) : BestAt D o w' a l := by
  rcases h with h | ⟨b, g1, g2, g3, g4, g5⟩
  · exact .inl h
  · exact .inr ⟨b, g1, g2, Nat.lt_of_lt_of_le g3 hg.size, g4, fun i hi => hg.cell (g5 i hi) g4⟩
theorem BestAt.own {D : Nat} {o o' : Option Nat} {w : World} {a : Option Addr} {l : List Nat} (h : BestAt D o w a l) (ho : o' = o ∨ ∀ b, o' = some b → w.heap.size ≤ b) : BestAt D o' w a l := by
  rcases h with h | ⟨b, g1, g2, g3, g4, g5⟩
  · exact .inl h
  · refine .inr ⟨b, g1, g2, g3, ?_, g5⟩
    rcases ho with e | e
    · rw [e]; exact g4
    · intro e2; have := e b e2.symm; omega

theorem RowN.cap {w : World} {D c : Nat} {a : Addr} {l : List Nat} (h : RowN w D (some a) l c) : l.length ≤ c := by
  rcases h.2 with ⟨hv, _⟩ | ⟨g, cap, cur, hv, _, _, h4, _⟩
  · cases hv
  · simp only [Value.slice.injEq] at hv
    rw [hv.2.2]; exact h4
theorem row_first {g n c : Nat} (h : n ≤ c) (h0 : 0 < c) (m : Nat) (hm : n ≤ m) : ∀ w, (Instr.slice 22 (.slice (some ⟨g, 0, none⟩) m c) none (some (.int .i64 (n : Int))) none).run Try.prog w = .ok (.slice (some ⟨g, 0, none⟩) n c) w := fun w => by
  have ht : Try.prog.underlying 22 = some (.slice (Try.prog.elem 22)) := by kernel_rfl
  have hs : ∀ w, (sizeOf (Try.prog.elem 22)).run Try.prog w = .ok 1 w := fun _ => by kernel_rfl
  rw [run_slice_h w 22 (some ⟨g, 0, none⟩) m c ht .i64 n (by omega) (by omega), hs w]
  have hc : ¬ c = 0 := by omega
  simp [Result.andThen, sliced, hc, WideShapes.add_plain]
theorem own_ne {w : World} {D c : Nat} {a : Option Addr} {l : List Nat} {o : Option Nat} (h : RowN w D a l c) (ho : (Value.slice a l.length c).ownBlock = o) {g : Nat} (hg : g < D) : some g ≠ o := fun e => by have := own_lt h ho g e.symm; omega
theorem TS.below {w0 : World} {o : Otl} {y : Lyg} {fw : Nat} {lw : Array Value} {q : Bx} {D : Nat} {r : Option Nat} {now : List Nat} {st : St} {w w' : World} (h : TS w0 o y fw lw q D r now st w) (hb : Below w.heap.size w w') : TS w0 o y fw lw q D r now st w' := by
  obtain ⟨h1, ⟨a, cN, h3, h4, h5⟩, ⟨a', cB, h6, h7, h8⟩, h9, h10, h11, h12, h13, h14, h15, h16, h17, h18⟩ := h
  have k : ∀ {g : Nat} {x : Obj}, w.heap[g]? = some x → w'.heap[g]? = some x := fun hx => (hb.block _ (Array.getElem?_eq_some_iff.1 hx).1).trans hx
  refine ⟨thru hb h1, ⟨a, cN, k h3, own_below h4 hb, h5⟩, ⟨a', cB, k h6, ?_, h8⟩, k h9, k h10, k h11, k h12, k h13, k h14, k h15, k h16, k h17, k h18⟩
  rcases h7 with h | ⟨b, g1, g2, g3, g4, g5⟩
  · exact .inl h
  · exact .inr ⟨b, g1, g2, Nat.lt_of_lt_of_le g3 hb.size, g4, fun i hi => (hb.cell (p := ⟨b, i, none⟩) g3).trans (g5 i hi)⟩
/-- the best so far is now what there is -/
theorem TS.found {w0 : World} {o : Otl} {y : Lyg} {fw : Nat} {lw : Array Value} {q : Bx} {D : Nat} {r : Option Nat} {now : List Nat} {st : St} {w W : World} (hq : q.Ok w0.heap.size D) (T : TS w0 o y fw lw q D r now st w)
    {a' : Option Addr} {c' n : Nat} (hr : RowN w n a' now c') (hD : D ≤ n) (ho : ∀ b, r = some b → b < n) (s : Int) (hW : ((w.setCell ⟨q.gb, 0, none⟩ (.slice a' now.length c')).setCell ⟨q.gs, 0, none⟩ (.int .i64 s)).setCell ⟨q.gf, 0, none⟩ (.bool true) = W) :
    TS w0 o y fw lw q D r now (some (now, s)) W ∧ TK q r w W r := by
  obtain ⟨o1, o2, o3, o4, o5, o6, o7, o8, o9, o10, o11, o12, o13⟩ := hq
  obtain ⟨h1, ⟨a, cN, h3, h4, h5⟩, ⟨a2, cB, h6, h7, h8⟩, h9, h10, h11, h12, h13, h14, h15, h16, h17, h18⟩ := T
  subst hW
  have g1 := grownBy_set w q.gb 0 (.slice a' now.length c')
  have g2 := grownBy_set (w.setCell ⟨q.gb, 0, none⟩ (.slice a' now.length c')) q.gs 0 (.int .i64 s)
  have g3 := grownBy_set ((w.setCell ⟨q.gb, 0, none⟩ (.slice a' now.length c')).setCell ⟨q.gs, 0, none⟩ (.int .i64 s)) q.gf 0 (.bool true)
  have s2 := Nat.le_trans g1.size g2.size
  have k1 : ∀ {g : Nat} {x : Obj}, g ≠ q.gb → w.heap[g]? = some x → (w.setCell ⟨q.gb, 0, none⟩ (.slice a' now.length c')).heap[g]? = some x := fun n1 hx => (g1.block _ (Array.getElem?_eq_some_iff.1 hx).1 (by simp; omega)).trans hx
  have k2 : ∀ {g : Nat} {x : Obj}, g ≠ q.gs → (w.setCell ⟨q.gb, 0, none⟩ (.slice a' now.length c')).heap[g]? = some x → ((w.setCell ⟨q.gb, 0, none⟩ (.slice a' now.length c')).setCell ⟨q.gs, 0, none⟩ (.int .i64 s)).heap[g]? = some x := fun n1 hx => (g2.block _ (Array.getElem?_eq_some_iff.1 hx).1 (by simp; omega)).trans hx
  have k3 : ∀ {g : Nat} {x : Obj}, g ≠ q.gf → ((w.setCell ⟨q.gb, 0, none⟩ (.slice a' now.length c')).setCell ⟨q.gs, 0, none⟩ (.int .i64 s)).heap[g]? = some x → (((w.setCell ⟨q.gb, 0, none⟩ (.slice a' now.length c')).setCell ⟨q.gs, 0, none⟩ (.int .i64 s)).setCell ⟨q.gf, 0, none⟩ (.bool true)).heap[g]? = some x := fun n1 hx => (g3.block _ (Array.getElem?_eq_some_iff.1 hx).1 (by simp; omega)).trans hx
  have k : ∀ {g : Nat} {x : Obj}, g ≠ q.gb → g ≠ q.gs → g ≠ q.gf → w.heap[g]? = some x → (((w.setCell ⟨q.gb, 0, none⟩ (.slice a' now.length c')).setCell ⟨q.gs, 0, none⟩ (.int .i64 s)).setCell ⟨q.gf, 0, none⟩ (.bool true)).heap[g]? = some x := fun n1 n2 n3 hx => k3 n3 (k2 n2 (k1 n1 hx))
  have ne : ∀ g, g < D → some g ≠ (Value.slice a now.length cN).ownBlock := fun g hg e => by have := own_ne h4 h5 hg; rw [h5] at e; exact this e
  refine ⟨⟨((h1.grown g1 h1.size (fun b hb => by cases hb; omega)).grown g2 (Nat.le_trans h1.size g1.size) (fun b hb => by cases hb; omega)).grown g3 (Nat.le_trans h1.size s2) (fun b hb => by cases hb; omega), ⟨a, cN, k (by omega) (by omega) (by omega) h3, ?_, h5⟩, ⟨a', c', ?_, ?_, fun e => by cases e⟩, ?_, ?_, k (by omega) (by omega) (by omega) h11, k (by omega) (by omega) (by omega) h12, k (by omega) (by omega) (by omega) h13, k (by omega) (by omega) (by omega) h14, k (by omega) (by omega) (by omega) h15, k (by omega) (by omega) (by omega) h16, k (by omega) (by omega) (by omega) h17, k (by omega) (by omega) (by omega) h18⟩, ?_⟩
  · exact World.ownsRow.kept (World.ownsRow.kept (World.ownsRow.kept h4 g1 (.inr (fun e => ne q.gb (by omega) e.symm))) g2 (.inr (fun e => ne q.gs (by omega) e.symm))) g3 (.inr (fun e => ne q.gf (by omega) e.symm))
  · exact k3 (by omega) (k2 (by omega) (block_set 0 _ h6))
  · exact (((BestAt.of hr hD ho).grown g1 (by omega)).grown g2 (by omega)).grown g3 (by omega)
  · exact k3 (by omega) (block_set 0 _ (k1 (by omega) h9))
  · exact block_set 0 _ (k2 (by omega) (k1 (by omega) h10))
  · exact ⟨Nat.le_trans s2 g3.size, fun b hb n1 n2 n3 n4 _ => (g3.block b (Nat.lt_of_lt_of_le hb s2) (by simp; omega)).trans ((g2.block b (Nat.lt_of_lt_of_le hb g1.size) (by simp; omega)).trans (g1.block b hb (by simp; omega))), .inl rfl⟩
/-- a choice more -/
theorem TS.push {w0 : World} {o : Otl} {y : Lyg} {fw : Nat} {lw : Array Value} {q : Bx} {D : Nat} {r : Option Nat} {now : List Nat} {st : St} {w w9 W : World} (hq : q.Ok w0.heap.size D) (T : TS w0 o y fw lw q D r now st w)
    {a9 : Option Addr} {c9 x : Nat} (hr : RowN w9 D a9 (now ++ [x]) c9) (hg : w.grownBy w9 r) (hat : (Value.slice a9 (now ++ [x]).length c9).ownBlock = r ∨ (Value.slice a9 (now ++ [x]).length c9).ownBlock = some w.heap.size)
    (hW : w9.setCell ⟨q.gn, 0, none⟩ (.slice a9 (now ++ [x]).length c9) = W) :
    TS w0 o y fw lw q D (Value.slice a9 (now ++ [x]).length c9).ownBlock (now ++ [x]) st W ∧ TK q r w W (Value.slice a9 (now ++ [x]).length c9).ownBlock := by
  obtain ⟨o1, o2, o3, o4, o5, o6, o7, o8, o9, o10, o11, o12, o13⟩ := hq
  obtain ⟨h1, ⟨a, cN, h3, h4, h5⟩, ⟨a2, cB, h6, h7, h8⟩, h9, h10, h11, h12, h13, h14, h15, h16, h17, h18⟩ := T
  subst hW
  have hol := own_lt h4 h5
  have g2 := grownBy_set w9 q.gn 0 (.slice a9 (now ++ [x]).length c9)
  have k0 : ∀ {g : Nat} {x : Obj}, g < D → w.heap[g]? = some x → w9.heap[g]? = some x := fun n1 hx => (hg.block _ (Array.getElem?_eq_some_iff.1 hx).1 (own_ne h4 h5 n1)).trans hx
  have k : ∀ {g : Nat} {y : Obj}, g < D → g ≠ q.gn → w.heap[g]? = some y → (w9.setCell ⟨q.gn, 0, none⟩ (.slice a9 (now ++ [x]).length c9)).heap[g]? = some y := fun n1 n2 hx =>
    (g2.block _ (Array.getElem?_eq_some_iff.1 (k0 n1 hx)).1 (by simp; omega)).trans (k0 n1 hx)
  have hown : (Value.slice a9 (now ++ [x]).length c9).ownBlock = r ∨ ∀ b, (Value.slice a9 (now ++ [x]).length c9).ownBlock = some b → w.heap.size ≤ b := by
    rcases hat with e | e
    · exact .inl e
    · exact .inr fun b hb => by rw [e] at hb; cases hb; exact Nat.le_refl _
  refine ⟨⟨(h1.grown hg h1.size (fun b hb => by have := hol b hb; omega)).grown g2 (Nat.le_trans h1.size hg.size) (fun b hb => by cases hb; omega), ⟨a9, c9, block_set 0 _ (k0 (by omega) h3), ?_, rfl⟩, ⟨a2, cB, k (by omega) (by omega) h6, ?_, h8⟩, k (by omega) (by omega) h9, k (by omega) (by omega) h10, k (by omega) (by omega) h11, k (by omega) (by omega) h12, k (by omega) (by omega) h13, k (by omega) (by omega) h14, k (by omega) (by omega) h15, k (by omega) (by omega) h16, k (by omega) (by omega) h17, k (by omega) (by omega) h18⟩, ?_⟩
  · exact World.ownsRow.kept hr g2 (.inr (fun e => by have := own_ne hr rfl (g := q.gn) (by omega); exact this e.symm))
  · refine BestAt.grown ?_ g2 (by omega)
    rcases h7 with e | ⟨b, e1, e2, e3, e4, e5⟩
    · exact .inl e
    · refine .inr ⟨b, e1, e2, Nat.lt_of_lt_of_le e3 hg.size, fun e6 => ?_, fun i hi => hg.cell (e5 i hi) e4⟩
      rcases hown with e7 | e7
      · rw [e7] at e6; exact e4 e6
      · have := e7 b e6.symm; omega
  · refine ⟨Nat.le_trans hg.size g2.size, fun b hb n1 n2 n3 n4 n5 => (g2.block b (Nat.lt_of_lt_of_le hb hg.size) (by simp; omega)).trans (hg.block b hb n5), hown⟩
/-- the last choice is given up -/
theorem TS.pop {w0 : World} {o : Otl} {y : Lyg} {fw : Nat} {lw : Array Value} {q : Bx} {D : Nat} {r : Option Nat} {now : List Nat} {st : St} {w W : World} {g cN x : Nat} (hq : q.Ok w0.heap.size D) (T : TS w0 o y fw lw q D r (now ++ [x]) st w)
    (hn : w.heap[q.gn]? = some (.cells #[.slice (some ⟨g, 0, none⟩) (now ++ [x]).length cN] 22 (0, 0))) (hW : w.setCell ⟨q.gn, 0, none⟩ (.slice (some ⟨g, 0, none⟩) now.length cN) = W) :
    TS w0 o y fw lw q D r now st W ∧ TK q r w W r := by
  obtain ⟨o1, o2, o3, o4, o5, o6, o7, o8, o9, o10, o11, o12, o13⟩ := hq
  obtain ⟨h1, ⟨a, cN', h3, h4, h5⟩, ⟨a2, cB, h6, h7, h8⟩, h9, h10, h11, h12, h13, h14, h15, h16, h17, h18⟩ := T
  subst hW
  rw [hn] at h3
  have e3 : some ⟨g, 0, none⟩ = a ∧ cN = cN' := by simpa using h3
  obtain ⟨rfl, rfl⟩ := e3
  have g2 := grownBy_set w q.gn 0 (.slice (some ⟨g, 0, none⟩) now.length cN)
  have k : ∀ {b : Nat} {y : Obj}, b ≠ q.gn → w.heap[b]? = some y → (w.setCell ⟨q.gn, 0, none⟩ (.slice (some ⟨g, 0, none⟩) now.length cN)).heap[b]? = some y := fun n2 hx => (g2.block _ (Array.getElem?_eq_some_iff.1 hx).1 (by simp; omega)).trans hx
  refine ⟨⟨h1.grown g2 h1.size (fun b hb => by cases hb; omega), ⟨_, cN, block_set 0 _ hn, ?_, h5⟩, ⟨a2, cB, k (by omega) h6, h7.grown g2 (by omega), h8⟩, k (by omega) h9, k (by omega) h10, k (by omega) h11, k (by omega) h12, k (by omega) h13, k (by omega) h14, k (by omega) h15, k (by omega) h16, k (by omega) h17, k (by omega) h18⟩, ⟨g2.size, fun b hb n1 n2 n3 n4 _ => g2.block b hb (by simp; omega), .inl rfl⟩⟩
  exact World.ownsRow.kept (RowN.pop h4) g2 (.inr (fun e => by have := own_ne h4 h5 (g := q.gn) (by omega); rw [← h5] at this; exact this e.symm))
end Go.Proofs.Ytdcpgjepgajioaa
