/- Contract of Keeps. No conditions beyond each theorem's own. -/
import Derived.Test.YtdcpgjepgajioaaBm
set_option linter.unusedVariables false
set_option linter.unusedSimpArgs false
set_option linter.unusedSectionVars false
set_option linter.constructorNameAsVariable false
namespace Go.Proofs.Ytdcpgjepgajioaa
open Go.RowKit Go.Shelf

attribute [local go_sem] gw_cell gw_frozen gw_size
attribute [local go_sem] Oper.semAt_some keepW_cell

def Lyg.roomB (y : Lyg) : Int → Bool := fun n => decide (n ≤ y.room)
/-- the errors of a path's years, with the greatest part, within the room -/
def Otl.errHi (o : Otl) (y : Lyg) (i : Nat) (L : Nat → Int) (t : Nat) : Int := (o.yrAt i L y.lot y.roomB (parHi o) t).2
/-- the error of a path, and where -/
def Otl.pathE (o : Otl) (y : Lyg) (m : Nat) (L : Nat → Int) (i : Nat) : Int :=
  if upto (o.errLo y i L) m < m then o.errLo y i L (upto (o.errLo y i L) m) else if upto (o.errHi y i L) m < m then o.errHi y i L (upto (o.errHi y i L) m) else 0
def Otl.pathY (o : Otl) (y : Lyg) (m : Nat) (L : Nat → Int) (i : Nat) : Nat :=
  if upto (o.errLo y i L) m < m then upto (o.errLo y i L) m else upto (o.errHi y i L) m
def keepN (o : Otl) (y : Lyg) (m : Nat) (L : Nat → Int) : Nat := upto (o.pathE y m L) o.nP
def keepsE (o : Otl) (y : Lyg) (m : Nat) (L : Nat → Int) : Int := if argE o y m L = 1 then 1 else if keepN o y m L = o.nP then 0 else o.pathE y m L (keepN o y m L)
def keepsP (o : Otl) (y : Lyg) (m : Nat) (L : Nat → Int) : Nat := if argE o y m L = 1 then 0 else keepN o y m L
def keepsY (o : Otl) (y : Lyg) (m : Nat) (L : Nat → Int) : Nat := if argE o y m L = 1 then 0 else if keepN o y m L = o.nP then m else o.pathY y m L (keepN o y m L)
def KeepsEnd (o : Otl) (y : Lyg) (m : Nat) (L : Nat → Int) (w : World) (e : Ending) (w' : World) : Prop :=
  e = .returned (.tuple #[.int .i64 (keepsP o y m L), .int .i64 (keepsY o y m L), .int .i64 (keepsE o y m L)]) ∧ Below w.heap.size w w'
theorem keep2 {W w : World} {b c : Nat} (h : w.heap[b]? = W.heap[b]?) (h2 : w.heap[c]? = W.heap[c]?) : ∃ x : KeepW W [b, c], w = x.w := ⟨⟨w, fun b' hb => by simp only [List.mem_cons, List.not_mem_nil, or_false] at hb; rcases hb with hb | hb <;> rw [hb] <;> assumption⟩, rfl⟩
theorem arr82 (T : Array Value) (h : T.size = 82) : ∃ u : Nat → Value, T = #[u 0, u 1, u 2, u 3, u 4, u 5, u 6, u 7, u 8, u 9, u 10, u 11, u 12, u 13, u 14, u 15, u 16, u 17, u 18, u 19, u 20, u 21, u 22, u 23, u 24, u 25, u 26, u 27, u 28, u 29, u 30, u 31, u 32, u 33, u 34, u 35, u 36, u 37, u 38, u 39, u 40, u 41, u 42, u 43, u 44, u 45, u 46, u 47, u 48, u 49, u 50, u 51, u 52, u 53, u 54, u 55, u 56, u 57, u 58, u 59, u 60, u 61, u 62, u 63, u 64, u 65, u 66, u 67, u 68, u 69, u 70, u 71, u 72, u 73, u 74, u 75, u 76, u 77, u 78, u 79, u 80, u 81] ∧ ∀ i, T.getD i undef = u i := by
  refine ⟨fun i => T.getD i undef, ?_, fun _ => rfl⟩
  have : T = ((List.range 82).map fun i => T.getD i undef).toArray := by
    apply Array.ext
    · simp [h]
    · intro i h1 h2
      simp [h1]
  exact this
/-- the frame at the head of the loop of Keeps -/
structure KFr (o : Otl) (aL : Option Addr) (m cL : Nat) (w : World) (bq k : Nat) (ms : List Nat) (a : Act) : Prop where
  size : a.tmps.size = 82
  dfr : a.defers = marks ms
  s2 : a.tmps.getD 2 undef = .slice aL m cL
  s3 : a.tmps.getD 3 undef = .pointer (some ⟨w.heap.size, 0, none⟩)
  s4 : a.tmps.getD 4 undef = .pointer (some ⟨w.heap.size + 1, 0, none⟩)
  s6 : a.tmps.getD 6 undef = .pointer (some ⟨w.heap.size + 1 + 1, 0, none⟩)
  s7 : a.tmps.getD 7 undef = .pointer (some ⟨w.heap.size + 1 + 1 + 1, 0, none⟩)
  s8 : a.tmps.getD 8 undef = .pointer (some ⟨w.heap.size + 1 + 1 + 1 + 1, 0, none⟩)
  s9 : a.tmps.getD 9 undef = .func (.func 53) #[] #[.pointer (some ⟨bq, 0, none⟩)]
  s10 : a.tmps.getD 10 undef = .func (.func 54) #[] #[.pointer (some ⟨bq, 0, none⟩)]
  s11 : a.tmps.getD 11 undef = .func (.func 40) #[] #[.pointer (some ⟨w.heap.size + 1, 0, none⟩)]
  s41 : a.tmps.getD 41 undef = .int .i64 (o.nP : Int)
  s42 : a.tmps.getD 42 undef = .int .i64 (k : Int)
/-- what lies in memory -/
structure KB (o : Otl) (y : Lyg) (w : World) (bq : Nat) (ms : List Nat) (V : World) : Prop where
  low : Below w.heap.size w V
  z0 : V.heap[w.heap.size]? = some (.cells #[.slice o.aS o.nS o.cS, .int .i64 o.kl, .int .i64 o.kh, .slice o.aA o.nA o.cA, .slice o.aP o.nP o.cP] 27 (0, 0))
  z1 : V.heap[w.heap.size + 1]? = some (.cells #[.slice y.aR y.nR y.cR, .slice y.aM y.nM y.cM, .int .i64 y.lot, .int .i64 y.room] 29 (0, 0))
  z2 : V.heap[w.heap.size + 1 + 1]? = some (.cells #[.int .i64 0] 3 (0, 0))
  z3 : V.heap[w.heap.size + 1 + 1 + 1]? = some (.cells #[.int .i64 0] 3 (0, 0))
  z4 : V.heap[w.heap.size + 1 + 1 + 1 + 1]? = some (.cells #[.int .i64 0] 33 (0, 0))
  zq : V.heap[bq]? = some (.cells #[.slice o.aS o.nS o.cS, .int .i64 o.kl, .int .i64 o.kh, .slice o.aA o.nA o.cA, .slice o.aP o.nP o.cP] 27 (0, 0))
  mks : ∀ D, D ∈ ms → V.heap[D]? = some (.deferred (some []))
  nd : ms.Nodup
  bq5 : w.heap.size + 5 ≤ bq
  ms5 : ∀ D, D ∈ ms → w.heap.size + 5 ≤ D
theorem KB.grown {o : Otl} {y : Lyg} {w : World} {bq : Nat} {ms : List Nat} {V V' : World} {r : Option Nat} (h : KB o y w bq ms V) (g : V.grownBy V' r) (hr : ∀ b, r = some b → w.heap.size + 5 ≤ b ∧ b ≠ bq ∧ b ∉ ms) : KB o y w bq ms V' := by
  have k : ∀ (B : Nat) (ob : Obj), V.heap[B]? = some ob → (∀ b, r = some b → B ≠ b) → V'.heap[B]? = some ob := fun B ob ho hne => (g.block B (Array.getElem?_eq_some_iff.1 ho).1 (fun e => hne B e.symm rfl)).trans ho
  have lo : ∀ B, B < w.heap.size + 5 → ∀ b, r = some b → B ≠ b := fun B hB b hb e => by have := (hr b hb).1; omega
  exact ⟨h.low.grown g h.low.size (fun b hb => by have := (hr b hb).1; omega), k _ _ h.z0 (lo _ (by omega)), k _ _ h.z1 (lo _ (by omega)), k _ _ h.z2 (lo _ (by omega)), k _ _ h.z3 (lo _ (by omega)), k _ _ h.z4 (lo _ (by omega)),
    k _ _ h.zq (fun b hb e => (hr b hb).2.1 e.symm), fun D hD => k _ _ (h.mks D hD) (fun b hb e => (hr b hb).2.2 (e ▸ hD)), h.nd, h.bq5, h.ms5⟩
theorem KB.below {o : Otl} {y : Lyg} {w : World} {bq : Nat} {ms : List Nat} {V V' : World} (h : KB o y w bq ms V) (hb : Below V.heap.size V V') : KB o y w bq ms V' := h.grown (grownBy_of_below hb none) (fun b e => by cases e)
theorem KB.old {o : Otl} {y : Lyg} {w : World} {bq : Nat} {ms : List Nat} {V : World} (h : KB o y w bq ms V) {b : Nat} (hb : V.heap.size ≤ b) : w.heap.size + 5 ≤ b ∧ b ≠ bq ∧ b ∉ ms := by
  have a := (Array.getElem?_eq_some_iff.1 h.z4).1
  have c := (Array.getElem?_eq_some_iff.1 h.zq).1
  exact ⟨by omega, by omega, fun hm => by have := (Array.getElem?_eq_some_iff.1 (h.mks b hm)).1; omega⟩
theorem KB.mark {o : Otl} {y : Lyg} {w : World} {bq D : Nat} {ms : List Nat} {V : World} (h : KB o y w bq ms V) (hD : V.heap[D]? = some (.deferred (some []))) (h5 : w.heap.size + 5 ≤ D) (hn : D ∉ ms) : KB o y w bq (D :: ms) V :=
  ⟨h.low, h.z0, h.z1, h.z2, h.z3, h.z4, h.zq, fun E hE => by
    rcases List.mem_cons.1 hE with e | e
    · rw [e]; exact hD
    · exact h.mks E e, List.nodup_cons.2 ⟨hn, h.nd⟩, h.bq5, fun E hE => by
    rcases List.mem_cons.1 hE with e | e
    · rw [e]; exact h5
    · exact h.ms5 E e⟩
/-- in a range of Keeps -/
structure KpJ (o : Otl) (y : Lyg) (w : World) (bq : Nat) (ms : List Nat) (D : Nat) (rec : Loop) (bP bY k j : Nat) (V : World) : Prop where
  loop : V.heap[D + 1]? = some (.loop rec)
  dfr : V.heap[D]? = some (.deferred (some []))
  path : V.heap[bP]? = some (.cells #[.int .i64 (k : Int)] 3 (0, 0))
  year : V.heap[bY]? = some (.cells #[.int .i64 (j : Int)] 3 (0, 0))
  b : KB o y w bq ms V
structure KpX (w : World) (ms : List Nat) (D : Nat) (rec : Loop) (k j : Nat) (e : Int) (V : World) : Prop where
  loop : V.heap[D + 1]? = some (.loop { rec with state := .done, pending := some .ret })
  dfr : V.heap[D]? = some (.deferred (some []))
  r0 : V.heap[w.heap.size + 1 + 1]? = some (.cells #[.int .i64 (k : Int)] 3 (0, 0))
  r1 : V.heap[w.heap.size + 1 + 1 + 1]? = some (.cells #[.int .i64 (j : Int)] 3 (0, 0))
  r2 : V.heap[w.heap.size + 1 + 1 + 1 + 1]? = some (.cells #[.int .i64 e] 33 (0, 0))
  mks : ∀ D, D ∈ ms → V.heap[D]? = some (.deferred (some []))
  nd : ms.Nodup
  ms5 : ∀ D, D ∈ ms → w.heap.size + 5 ≤ D
  low : Below w.heap.size w V
theorem KpJ.kept {o : Otl} {y : Lyg} {w : World} {bq : Nat} {ms : List Nat} {D : Nat} {rec : Loop} {bP bY k j K : Nat} {V V' : World} (h : KpJ o y w bq ms D rec bP bY k j V) (g : V.grownBy V' (some K)) (hK : D + 2 ≤ K) (hm : ∀ E, E ∈ ms → E < D) (hq : bq < D) (hP : bP < D) (hYY : bY < D) (hD : w.heap.size + 5 ≤ D) : KpJ o y w bq ms D rec bP bY k j V' := by
  have k : ∀ (B : Nat) (ob : Obj), V.heap[B]? = some ob → B ≠ K → V'.heap[B]? = some ob := fun B ob ho hne => (g.block B (Array.getElem?_eq_some_iff.1 ho).1 (by simpa using hne)).trans ho
  exact ⟨k _ _ h.loop (by omega), k _ _ h.dfr (by omega), k _ _ h.path (by omega), k _ _ h.year (by omega), h.b.grown g (fun b e => by cases e; exact ⟨by omega, by omega, fun hE => by have := hm _ hE; omega⟩)⟩
/-- a round more -/
theorem KpJ.next {o : Otl} {y : Lyg} {w : World} {bq : Nat} {ms : List Nat} {D : Nat} {rec : Loop} {bP bY k j : Nat} {V Wb W3 : World} (h : KpJ o y w bq ms D rec bP bY k j V) (h1 : V.grownBy Wb (some (D + 1))) (hl : Wb.heap[D + 1]? = some (.loop { rec with state := .busy })) (hm : ∀ E, E ∈ ms → E < D) (hq : bq < bY) (hP : bP < bY) (hYY : bY < D) (hD : w.heap.size + 5 ≤ bY)
    (hW : Wb.setCell ⟨bY, 0, none⟩ (.int .i64 ((j : Int) + 1)) = W3) (hmY : bY ∉ ms) :
    W3.heap[D + 1]? = some (.loop { rec with state := .busy }) ∧ KpJ o y w bq ms D rec bP bY k (j + 1) (W3.putObj (D + 1) (.loop rec)) ∧ V.grownBy (W3.putObj (D + 1) (.loop rec)) (some bY) := by
  have g2 : Wb.grownBy W3 (some bY) := by rw [← hW]; exact grownBy_set _ _ _ _
  have hall := round_grown h.loop h1 g2
  have l3 : W3.heap[D + 1]? = some (.loop { rec with state := .busy }) := (g2.block _ (Array.getElem?_eq_some_iff.1 hl).1 (by simp; omega)).trans hl
  have kb : ∀ (B : Nat) (ob : Obj), V.heap[B]? = some ob → B ≠ bY → (W3.putObj (D + 1) (.loop rec)).heap[B]? = some ob := fun B ob ho hne => (hall.block B (Array.getElem?_eq_some_iff.1 ho).1 (by simpa using hne)).trans ho
  have yb : Wb.heap[bY]? = some (.cells #[.int .i64 (j : Int)] 3 (0, 0)) := (h1.block bY (Array.getElem?_eq_some_iff.1 h.year).1 (by simp; omega)).trans h.year
  refine ⟨l3, ⟨kb _ _ h.loop (by omega), kb _ _ h.dfr (by omega), kb _ _ h.path (by omega), ?_, h.b.grown hall (fun b e => by cases e; exact ⟨hD, by omega, hmY⟩)⟩, hall⟩
  rw [World.putObj_heap_other (by omega), ← hW]
  exact block_set 0 _ yb
theorem KpX.of {o : Otl} {y : Lyg} {w : World} {bq : Nat} {ms : List Nat} {D : Nat} {rec : Loop} {bP bY k j : Nat} {e : Int} {V Wb Wc W3 : World} (h : KpJ o y w bq ms D rec bP bY k j V) (h1 : V.grownBy Wb (some (D + 1))) (hl : Wb.heap[D + 1]? = some (.loop { rec with state := .busy })) (hc : Below Wb.heap.size Wb Wc) (hm : ∀ E, E ∈ ms → E < D) (hD : w.heap.size + 5 ≤ D)
    (hW : ((Wc.setCell ⟨w.heap.size + 1 + 1, 0, none⟩ (.int .i64 (k : Int))).setCell ⟨w.heap.size + 1 + 1 + 1, 0, none⟩ (.int .i64 (j : Int))).setCell ⟨w.heap.size + 1 + 1 + 1 + 1, 0, none⟩ (.int .i64 e) = W3) :
    W3.heap[D + 1]? = some (.loop { rec with state := .busy }) ∧ KpX w ms D rec k j e (W3.putObj (D + 1) (.loop { rec with state := .done, pending := some .ret })) := by
  have far : ∀ (W : World) (b k : Nat) (v : Value) (B : Nat), B ≠ b → (W.setCell ⟨b, k, none⟩ v).heap[B]? = W.heap[B]? := fun W b k v B h => Below.heap_setCell W ⟨b, k, none⟩ v B h
  have kk : ∀ (B : Nat) (ob : Obj), V.heap[B]? = some ob → B ≠ D + 1 → Wc.heap[B]? = some ob := fun B ob ho hne => (hc.block B (by have := h1.size; have := (Array.getElem?_eq_some_iff.1 ho).1; omega)).trans ((h1.block B (Array.getElem?_eq_some_iff.1 ho).1 (by simpa using hne)).trans ho)
  have y1 := kk _ _ h.b.z2 (by omega)
  have y2 := kk _ _ h.b.z3 (by omega)
  have y3 := kk _ _ h.b.z4 (by omega)
  have y4 := kk _ _ h.dfr (by omega)
  have l3 : W3.heap[D + 1]? = some (.loop { rec with state := .busy }) := by rw [← hW]; exact (far _ _ _ _ _ (by omega)).trans ((far _ _ _ _ _ (by omega)).trans ((far _ _ _ _ _ (by omega)).trans ((hc.block _ (Array.getElem?_eq_some_iff.1 hl).1).trans hl)))
  have low : Below w.heap.size w W3 := by
    rw [← hW]
    have lo := h.b.low.grown h1 h.b.low.size (fun k e => by cases e; omega)
    exact (((lo.trans (hc.mono lo.size)).setCell (p := ⟨w.heap.size + 1 + 1, 0, none⟩) (by simp <;> omega) _).setCell (p := ⟨w.heap.size + 1 + 1 + 1, 0, none⟩) (by simp <;> omega) _).setCell (p := ⟨w.heap.size + 1 + 1 + 1 + 1, 0, none⟩) (by simp <;> omega) _
  refine ⟨l3, World.putObj_heap_same (Array.getElem?_eq_some_iff.1 l3).1, (World.putObj_heap_other (by omega)).trans ?_, (World.putObj_heap_other (by omega)).trans ?_, (World.putObj_heap_other (by omega)).trans ?_, (World.putObj_heap_other (by omega)).trans ?_, fun E hE => ?_, h.b.nd, h.b.ms5, low.grown (grownBy_putObj' _ _ _) low.size (fun k e => by cases e; omega)⟩
  · rw [← hW]; exact (far _ _ _ _ _ (by omega)).trans ((far _ _ _ _ _ (by omega)).trans ((far _ _ _ _ _ (by omega)).trans y4))
  · rw [← hW]; exact (far _ _ _ _ _ (by omega)).trans ((far _ _ _ _ _ (by omega)).trans (block_set 0 _ y1))
  · rw [← hW]; exact (far _ _ _ _ _ (by omega)).trans (block_set 0 _ ((far _ _ _ _ _ (by omega)).trans y2))
  · rw [← hW]; exact block_set 0 _ ((far _ _ _ _ _ (by omega)).trans ((far _ _ _ _ _ (by omega)).trans y3))
  · have e1 := hm E hE
    have e5 := h.b.ms5 E hE
    have yE := kk _ _ (h.b.mks E hE) (by omega)
    rw [World.putObj_heap_other (by omega), ← hW]
    exact (far _ _ _ _ _ (by omega)).trans ((far _ _ _ _ _ (by omega)).trans ((far _ _ _ _ _ (by omega)).trans yE))

set_option maxRecDepth 100000 in
set_option maxHeartbeats 4000000 in
theorem Keeps_arg (o : Otl) (y : Lyg) (aL : Option Addr) (m cL : Nat) (L : Nat → Int) (w : World) (hO : o.In w) (hfo : o.Fits) (hY : y.In w) (hfy : y.Fits) (hL : IntsAt w aL m L) (hm : m ≤ 9223372036854775807) (h : argE o y m L = 1) :
    Calls Try.prog 13 #[o.val, y.val, .slice aL m cL] w fun e w' => e = .returned (.tuple #[.int .i64 0, .int .i64 0, .int .i64 1]) ∧ Below w.heap.size w w' := by
  unfold Otl.val Lyg.val
  obtain ⟨W1, hW1⟩ : ∃ W1, ((((w.alloc (.cells #[.slice o.aS o.nS o.cS, .int .i64 o.kl, .int .i64 o.kh, .slice o.aA o.nA o.cA, .slice o.aP o.nP o.cP] 27)).alloc (.cells #[.slice y.aR y.nR y.cR, .slice y.aM y.nM y.cM, .int .i64 y.lot, .int .i64 y.room] 29)).alloc (.cells #[.int .i64 0] 3)).alloc (.cells #[.int .i64 0] 3)).alloc (.cells #[.int .i64 0] 33) = W1 := ⟨_, rfl⟩
  have hBc : Below w.heap.size w W1 := by rw [← hW1]; exact ((((below_alloc _ _).alloc (by simp) _).alloc (by simp <;> omega) _).alloc (by simp <;> omega) _).alloc (by simp <;> omega) _
  have zc0 : W1.heap[w.heap.size]? = some (.cells #[.slice o.aS o.nS o.cS, .int .i64 o.kl, .int .i64 o.kh, .slice o.aA o.nA o.cA, .slice o.aP o.nP o.cP] 27 (0, 0)) := by rw [← hW1]; exact alloc_keep (alloc_keep (alloc_keep (alloc_keep (alloc_at rfl))))
  have zc1 : W1.heap[w.heap.size + 1]? = some (.cells #[.slice y.aR y.nR y.cR, .slice y.aM y.nM y.cM, .int .i64 y.lot, .int .i64 y.room] 29 (0, 0)) := by rw [← hW1]; exact alloc_keep (alloc_keep (alloc_keep (alloc_at (by simp))))
  have zc2 : W1.heap[w.heap.size + 1 + 1]? = some (.cells #[.int .i64 0] 3 (0, 0)) := by rw [← hW1]; exact alloc_keep (alloc_keep (alloc_at (by simp <;> omega)))
  have zc3 : W1.heap[w.heap.size + 1 + 1 + 1]? = some (.cells #[.int .i64 0] 3 (0, 0)) := by rw [← hW1]; exact alloc_keep (alloc_at (by simp <;> omega))
  have zc4 : W1.heap[w.heap.size + 1 + 1 + 1 + 1]? = some (.cells #[.int .i64 0] 33 (0, 0)) := by rw [← hW1]; exact alloc_at (by simp <;> omega)
  have c00 : W1.cell? ⟨w.heap.size, 0, none⟩ = some (.slice o.aS o.nS o.cS) := cell_of_block zc0 0 (by simp)
  have c01 : W1.cell? ⟨w.heap.size, 1, none⟩ = some (.int .i64 o.kl) := cell_of_block zc0 1 (by simp)
  have c02 : W1.cell? ⟨w.heap.size, 2, none⟩ = some (.int .i64 o.kh) := cell_of_block zc0 2 (by simp)
  have c03 : W1.cell? ⟨w.heap.size, 3, none⟩ = some (.slice o.aA o.nA o.cA) := cell_of_block zc0 3 (by simp)
  have c04 : W1.cell? ⟨w.heap.size, 4, none⟩ = some (.slice o.aP o.nP o.cP) := cell_of_block zc0 4 (by simp)
  have c10 : W1.cell? ⟨w.heap.size + 1, 0, none⟩ = some (.slice y.aR y.nR y.cR) := cell_of_block zc1 0 (by simp)
  have c11 : W1.cell? ⟨w.heap.size + 1, 1, none⟩ = some (.slice y.aM y.nM y.cM) := cell_of_block zc1 1 (by simp)
  have c12 : W1.cell? ⟨w.heap.size + 1, 2, none⟩ = some (.int .i64 y.lot) := cell_of_block zc1 2 (by simp)
  have c13 : W1.cell? ⟨w.heap.size + 1, 3, none⟩ = some (.int .i64 y.room) := cell_of_block zc1 3 (by simp)
  have c20 : W1.cell? ⟨w.heap.size + 1 + 1, 0, none⟩ = some (.int .i64 0) := cell_of_block zc2 0 (by simp)
  have c30 : W1.cell? ⟨w.heap.size + 1 + 1 + 1, 0, none⟩ = some (.int .i64 0) := cell_of_block zc3 0 (by simp)
  have c40 : W1.cell? ⟨w.heap.size + 1 + 1 + 1 + 1, 0, none⟩ = some (.int .i64 0) := cell_of_block zc4 0 (by simp)
  have lc0 := (Array.getElem?_eq_some_iff.1 zc0).1
  have lc1 := (Array.getElem?_eq_some_iff.1 zc1).1
  have lc2 := (Array.getElem?_eq_some_iff.1 zc2).1
  have lc3 := (Array.getElem?_eq_some_iff.1 zc3).1
  have lc4 := (Array.getElem?_eq_some_iff.1 zc4).1
  have fc20 := frozen_of_block zc2 0
  have fc30 := frozen_of_block zc3 0
  have fc40 := frozen_of_block zc4 0
  clear zc0 zc1 zc2 zc3 zc4
  have HBc := Lib.hid hBc; clear hBc
  have HWc := Lib.hid hW1; clear hW1
  have HO := Lib.hid (hO.below HBc.out)
  have HY := Lib.hid (hY.below HBc.out)
  have HL := Lib.hid (hL.below HBc.out)
  have OL' := Lib.hid (fun W (hb : Below W1.heap.size W1 W) => isOutlook_any o W (HO.out.below hb) hfo)
  have HF := Lib.hid hfo
  have HFY := Lib.hid hfy
  clear hO hY hL hfo hfy
  unfold Otl.val at OL'
  cases e1 : outB o
  · have E1 := Lib.hid e1; clear e1
    rw [E1.out] at OL'
    go_enter Try.func13, Try.ntmps13
    go_upto_region 1 with (fail)
    rw [HWc.out]
    go_wp2_with fail
    refine (Calls.grown (OL'.out W1 (Below.refl _ _))).mono ?_
    rintro e w1 ⟨rfl, z1, rfl⟩
    go_wp2_with fail
    refine bodyPost_ret (v := .tuple #[.int .i64 0, .int .i64 0, .int .i64 1]) (by simp [results, Try.results13, go_sem, *]) rfl ⟨rfl, ?_⟩
    exact (((HBc.out.gw z1).setCell (by simp <;> omega) _).setCell (by simp <;> omega) _).setCell (by simp <;> omega) _
  have E1 := Lib.hid e1; clear e1
  rw [E1.out] at OL'
  have LY' := Lib.hid (fun W (hb : Below W1.heap.size W1 W) => isLaying_any o y W (HO.out.below hb) (by have := outB_t E1.out; omega) (HF.out.pN 0 (by have := outB_t E1.out; omega)) (HY.out.below hb) HFY.out)
  unfold Otl.val Lyg.val at LY'
  cases e2 : layB o y
  · have E2 := Lib.hid e2; clear e2
    rw [E2.out] at LY'
    go_enter Try.func13, Try.ntmps13
    go_upto_region 1 with (fail)
    rw [HWc.out]
    go_wp2_with fail
    refine (Calls.grown (OL'.out W1 (Below.refl _ _))).mono ?_
    rintro e w1 ⟨rfl, z1, rfl⟩
    go_wp2_with fail
    refine (Calls.gw_of (LY'.out _ (below_gw W1 z1))).mono ?_
    rintro e w1 ⟨rfl, z2, rfl⟩
    go_wp2_with fail
    refine bodyPost_ret (v := .tuple #[.int .i64 0, .int .i64 0, .int .i64 1]) (by simp [results, Try.results13, go_sem, *]) rfl ⟨rfl, ?_⟩
    exact (((HBc.out.gw z2).setCell (by simp <;> omega) _).setCell (by simp <;> omega) _).setCell (by simp <;> omega) _
  have E2 := Lib.hid e2; clear e2
  rw [E2.out] at LY'
  have LT' := Lib.hid (fun W (hb : Below W1.heap.size W1 W) => areLots_any y aL m cL L W (HY.out.below hb) HFY.out (HL.out.below hb) hm)
  unfold Lyg.val at LT'
  cases e3 : lotsB y m L
  · have E3 := Lib.hid e3; clear e3
    rw [E3.out] at LT'
    go_enter Try.func13, Try.ntmps13
    go_upto_region 1 with (fail)
    rw [HWc.out]
    go_wp2_with fail
    refine (Calls.grown (OL'.out W1 (Below.refl _ _))).mono ?_
    rintro e w1 ⟨rfl, z1, rfl⟩
    go_wp2_with fail
    refine (Calls.gw_of (LY'.out _ (below_gw W1 z1))).mono ?_
    rintro e w1 ⟨rfl, z2, rfl⟩
    go_wp2_with fail
    refine (Calls.gw_of (LT'.out _ (below_gw W1 z2))).mono ?_
    rintro e w1 ⟨rfl, z3, rfl⟩
    go_wp2_with fail
    refine bodyPost_ret (v := .tuple #[.int .i64 0, .int .i64 0, .int .i64 1]) (by simp [results, Try.results13, go_sem, *]) rfl ⟨rfl, ?_⟩
    exact (((HBc.out.gw z3).setCell (by simp <;> omega) _).setCell (by simp <;> omega) _).setCell (by simp <;> omega) _
  have E3 := Lib.hid e3; clear e3
  rw [E3.out] at LT'
  unfold argE at h
  rw [if_pos ⟨E1.out, E2.out, E3.out⟩] at h
  cases h

set_option maxRecDepth 100000 in
set_option maxHeartbeats 16000000 in
theorem Keeps_in (n : Nat) (o : Otl) (y : Lyg) (aL : Option Addr) (m cL : Nat) (L : Nat → Int) (w : World) (hO : o.In w) (hfo : o.Fits) (hY : y.In w) (hfy : y.Fits) (hL : IntsAt w aL m L) (hm : m ≤ 9223372036854775807) (h : argE o y m L = 0) :
    CallsIn Fence.wide n Try.prog 13 #[o.val, y.val, .slice aL m cL] w (KeepsEnd o y m L w) := by
  have hmf : ∀ (fn : Fn) (first cap : Array Value) (w : World), (Instr.makeFunc fn first cap).run Try.prog w = .ok (.func fn first cap) w := fun _ _ _ _ => rfl
  obtain ⟨e1, e2, e3⟩ := argE_zero h
  have LB := layB_t e2
  have TB := lotsB_t e3
  have OB := outB_t e1
  have hRO : ∀ (i : Nat) (part : Int → Int), i < o.nP → (∀ x, 0 ≤ x → 0 ≤ part x ∧ part x ≤ x) → RunOk o i m L y.lot part := fun i part hi hp => ⟨e1, hi, by rw [TB.1, LB.2.1, (OB.2.2.2.2.2.2.2.2.2 i hi).1], fun t ht => by have := TB.2 t ht; have := LB.2.2.2.1 t (by omega); omega, LB.2.2.2.2.1, hp⟩
  have E1 := Lib.hid e1; have E2 := Lib.hid e2; have E3 := Lib.hid e3
  have HARG := Lib.hid h
  have HRO := Lib.hid hRO
  have KL := Lib.hid (And.intro OB.2.2.1 (And.intro OB.2.2.2.1 OB.2.2.2.2.1))
  have HPLO := Lib.hid (fun x (hx : 0 ≤ x) => show 0 ≤ parLo o x ∧ parLo o x ≤ x by have := par_rng (o := o) hx OB.2.2.1 OB.2.2.2.1 OB.2.2.2.2.1; omega)
  have HPHI := Lib.hid (fun x (hx : 0 ≤ x) => show 0 ≤ parHi o x ∧ parHi o x ≤ x by have := par_rng (o := o) hx OB.2.2.1 OB.2.2.2.1 OB.2.2.2.2.1; omega)
  have oP := OB.2.2.2.2.2.2.2.2.1
  have m10 := (hRO 0 (fun x => x) (by omega) (fun x hx => by omega)).m10
  clear e1 e2 e3 h LB TB OB hRO
  unfold Otl.val Lyg.val
  obtain ⟨W1, hW1⟩ : ∃ W1, ((((w.alloc (.cells #[.slice o.aS o.nS o.cS, .int .i64 o.kl, .int .i64 o.kh, .slice o.aA o.nA o.cA, .slice o.aP o.nP o.cP] 27)).alloc (.cells #[.slice y.aR y.nR y.cR, .slice y.aM y.nM y.cM, .int .i64 y.lot, .int .i64 y.room] 29)).alloc (.cells #[.int .i64 0] 3)).alloc (.cells #[.int .i64 0] 3)).alloc (.cells #[.int .i64 0] 33) = W1 := ⟨_, rfl⟩
  have hBc : Below w.heap.size w W1 := by rw [← hW1]; exact ((((below_alloc _ _).alloc (by simp) _).alloc (by simp <;> omega) _).alloc (by simp <;> omega) _).alloc (by simp <;> omega) _
  have zc0 : W1.heap[w.heap.size]? = some (.cells #[.slice o.aS o.nS o.cS, .int .i64 o.kl, .int .i64 o.kh, .slice o.aA o.nA o.cA, .slice o.aP o.nP o.cP] 27 (0, 0)) := by rw [← hW1]; exact alloc_keep (alloc_keep (alloc_keep (alloc_keep (alloc_at rfl))))
  have zc1 : W1.heap[w.heap.size + 1]? = some (.cells #[.slice y.aR y.nR y.cR, .slice y.aM y.nM y.cM, .int .i64 y.lot, .int .i64 y.room] 29 (0, 0)) := by rw [← hW1]; exact alloc_keep (alloc_keep (alloc_keep (alloc_at (by simp))))
  have zc2 : W1.heap[w.heap.size + 1 + 1]? = some (.cells #[.int .i64 0] 3 (0, 0)) := by rw [← hW1]; exact alloc_keep (alloc_keep (alloc_at (by simp <;> omega)))
  have zc3 : W1.heap[w.heap.size + 1 + 1 + 1]? = some (.cells #[.int .i64 0] 3 (0, 0)) := by rw [← hW1]; exact alloc_keep (alloc_at (by simp <;> omega))
  have zc4 : W1.heap[w.heap.size + 1 + 1 + 1 + 1]? = some (.cells #[.int .i64 0] 33 (0, 0)) := by rw [← hW1]; exact alloc_at (by simp <;> omega)
  have c00 : W1.cell? ⟨w.heap.size, 0, none⟩ = some (.slice o.aS o.nS o.cS) := cell_of_block zc0 0 (by simp)
  have c01 : W1.cell? ⟨w.heap.size, 1, none⟩ = some (.int .i64 o.kl) := cell_of_block zc0 1 (by simp)
  have c02 : W1.cell? ⟨w.heap.size, 2, none⟩ = some (.int .i64 o.kh) := cell_of_block zc0 2 (by simp)
  have c03 : W1.cell? ⟨w.heap.size, 3, none⟩ = some (.slice o.aA o.nA o.cA) := cell_of_block zc0 3 (by simp)
  have c04 : W1.cell? ⟨w.heap.size, 4, none⟩ = some (.slice o.aP o.nP o.cP) := cell_of_block zc0 4 (by simp)
  have c10 : W1.cell? ⟨w.heap.size + 1, 0, none⟩ = some (.slice y.aR y.nR y.cR) := cell_of_block zc1 0 (by simp)
  have c11 : W1.cell? ⟨w.heap.size + 1, 1, none⟩ = some (.slice y.aM y.nM y.cM) := cell_of_block zc1 1 (by simp)
  have c12 : W1.cell? ⟨w.heap.size + 1, 2, none⟩ = some (.int .i64 y.lot) := cell_of_block zc1 2 (by simp)
  have c13 : W1.cell? ⟨w.heap.size + 1, 3, none⟩ = some (.int .i64 y.room) := cell_of_block zc1 3 (by simp)
  have c20 : W1.cell? ⟨w.heap.size + 1 + 1, 0, none⟩ = some (.int .i64 0) := cell_of_block zc2 0 (by simp)
  have c30 : W1.cell? ⟨w.heap.size + 1 + 1 + 1, 0, none⟩ = some (.int .i64 0) := cell_of_block zc3 0 (by simp)
  have c40 : W1.cell? ⟨w.heap.size + 1 + 1 + 1 + 1, 0, none⟩ = some (.int .i64 0) := cell_of_block zc4 0 (by simp)
  have lc0 := (Array.getElem?_eq_some_iff.1 zc0).1
  have lc1 := (Array.getElem?_eq_some_iff.1 zc1).1
  have lc2 := (Array.getElem?_eq_some_iff.1 zc2).1
  have lc3 := (Array.getElem?_eq_some_iff.1 zc3).1
  have lc4 := (Array.getElem?_eq_some_iff.1 zc4).1
  have fc20 := frozen_of_block zc2 0
  have fc30 := frozen_of_block zc3 0
  have fc40 := frozen_of_block zc4 0
  have Zc0 := Lib.hid zc0
  have Zc1 := Lib.hid zc1
  have Zc2 := Lib.hid zc2
  have Zc3 := Lib.hid zc3
  have Zc4 := Lib.hid zc4
  clear zc0 zc1 zc2 zc3 zc4
  have HBc := Lib.hid hBc; clear hBc
  have HWc := Lib.hid hW1; clear hW1
  have HO0 := Lib.hid hO
  have HL0 := Lib.hid hL
  have HO := Lib.hid (hO.below HBc.out)
  have HY := Lib.hid (hY.below HBc.out)
  have HL := Lib.hid (hL.below HBc.out)
  have OL' := Lib.hid (fun W (hb : Below W1.heap.size W1 W) => isOutlook_any o W (HO.out.below hb) hfo)
  have HF := Lib.hid hfo
  have HFY := Lib.hid hfy
  clear hO hY hL hfo hfy
  have LY' := Lib.hid (fun W (hb : Below W1.heap.size W1 W) => isLaying_any o y W (HO.out.below hb) (by have := outB_t E1.out; omega) (HF.out.pN 0 (by have := outB_t E1.out; omega)) (HY.out.below hb) HFY.out)
  have LT' := Lib.hid (fun W (hb : Below W1.heap.size W1 W) => areLots_any y aL m cL L W (HY.out.below hb) HFY.out (HL.out.below hb) hm)
  rw [E1.out] at OL'
  rw [E2.out] at LY'
  rw [E3.out] at LT'
  unfold Otl.val at OL' LY'
  unfold Lyg.val at LY' LT'
  refine callsIn_of_wp_marks Try.func13 rfl trivial ?_ rfl
  simp only [Try.ntmps13, List.size_toArray, List.length_cons, List.length_nil, Nat.reduceAdd, Nat.reduceSub, Array.replicate_succ, Array.replicate_zero, List.push_toArray, List.append_toArray, List.nil_append, List.cons_append]
  gi_upto_region 1 with (fail)
  rw [HWc.out]
  gi_wp2_with fail
  refine ⟨trivial, (fun h => (by cases h)), ?_⟩
  refine (callsIn_wide.2 (Calls.grown (OL'.out W1 (Below.refl _ _)))).mono ?_
  rintro e w1 ⟨rfl, z1, rfl⟩
  gi_wp2_with fail
  refine ⟨trivial, (fun h => (by cases h)), ?_⟩
  refine (callsIn_wide.2 (Calls.gw_of (LY'.out _ (below_gw W1 z1)))).mono ?_
  rintro e w1 ⟨rfl, z2, rfl⟩
  gi_wp2_with fail
  refine ⟨trivial, (fun h => (by cases h)), ?_⟩
  refine (callsIn_wide.2 (Calls.gw_of (LT'.out _ (below_gw W1 z2)))).mono ?_
  rintro e w1 ⟨rfl, z3, rfl⟩
  gi_wp2_with fail
  refine ⟨trivial, (fun h => (by cases h)), ?_⟩
  have PA := parts_any o (gw W1 z3)
  unfold Otl.val at PA
  refine (callsIn_wide.2 PA).mono ?_
  rintro e w4 ⟨bq, rfl, hq0, hq1, hb4⟩
  obtain ⟨z4, rfl⟩ := gw_of_below (thru hb4 (below_gw W1 z3))
  have HQ := Lib.hid hq1
  rw [gw_size] at hq0
  clear hb4 PA hq1
  gi_wp2_with fail
  have KB0 := Lib.hid (show KB o y w bq [] (gw W1 z4) from ⟨HBc.out.gw z4, (gw_block W1 z4 _ lc0).trans Zc0.out, (gw_block W1 z4 _ lc1).trans Zc1.out, (gw_block W1 z4 _ lc2).trans Zc2.out, (gw_block W1 z4 _ lc3).trans Zc3.out, (gw_block W1 z4 _ lc4).trans Zc4.out, HQ.out, fun D hD => (by cases hD), List.nodup_nil, by omega, fun D hD => (by cases hD)⟩)
  refine wpIn_loop (fun a' w' => ∃ (k : Nat) (ms : List Nat), k ≤ o.nP ∧ KFr o aL m cL w bq k ms a' ∧ KB o y w bq ms w' ∧ ∀ t, t < k → o.pathE y m L t = 0) (fun a' _ => o.nP - (intOf (a'.tmps.getD 42 undef)).toNat) ?_ ?_
  · exact ⟨0, [], Nat.zero_le _, ⟨rfl, rfl, rfl, rfl, rfl, rfl, rfl, rfl, rfl, rfl, rfl, rfl, rfl⟩, KB0.out, fun t ht => by omega⟩
  clear c00 c01 c02 c03 c04 c10 c11 c12 c13 c20 c30 c40 fc20 fc30 fc40 lc0 lc1 lc2 lc3 lc4 HWc hq0
  rintro ⟨T, ds⟩ wr ⟨k, ms, hk, hFr, hKB, hall⟩
  obtain ⟨f0, f1, s2, s3, s4, s6, s7, s8, s9, s10, s11, s41, s42⟩ := hFr
  dsimp only at f0 f1 s2 s3 s4 s6 s7 s8 s9 s10 s11 s41 s42
  obtain ⟨u, rfl, -⟩ := arr82 T f0
  subst f1
  have t2 : u 2 = .slice aL m cL := s2
  have t3 : u 3 = .pointer (some ⟨w.heap.size, 0, none⟩) := s3
  have t4 : u 4 = .pointer (some ⟨w.heap.size + 1, 0, none⟩) := s4
  have t6 : u 6 = .pointer (some ⟨w.heap.size + 1 + 1, 0, none⟩) := s6
  have t7 : u 7 = .pointer (some ⟨w.heap.size + 1 + 1 + 1, 0, none⟩) := s7
  have t8 : u 8 = .pointer (some ⟨w.heap.size + 1 + 1 + 1 + 1, 0, none⟩) := s8
  have t9 : u 9 = .func (.func 53) #[] #[.pointer (some ⟨bq, 0, none⟩)] := s9
  have t10 : u 10 = .func (.func 54) #[] #[.pointer (some ⟨bq, 0, none⟩)] := s10
  have t11 : u 11 = .func (.func 40) #[] #[.pointer (some ⟨w.heap.size + 1, 0, none⟩)] := s11
  have t41 : u 41 = .int .i64 (o.nP : Int) := s41
  have t42 : u 42 = .int .i64 (k : Int) := s42
  clear s2 s3 s4 s6 s7 s8 s9 s10 s11 s41 s42 f0
  rw [t2, t3, t4, t6, t7, t8, t9, t10, t11, t41, t42]
  clear t2 t3 t4 t6 t7 t8 t9 t10 t11 t41 t42
  have KB1 := Lib.hid hKB
  have HALL := Lib.hid hall
  clear hKB hall KB0
  by_cases hlt : k < o.nP
  · have zk : (k : Int) < (o.nP : Int) := by omega
    gi_upto_region 9 with (fail)
    obtain ⟨Wp, hWp⟩ : ∃ Wp, (wr.alloc (.cells #[.int .i64 (k : Int)] 3)).alloc (.cells #[.int .i64 0] 3) = Wp := ⟨_, rfl⟩
    have bb : Below wr.heap.size wr Wp := by rw [← hWp]; exact (below_alloc _ _).alloc (by simp) _
    obtain ⟨bP, hbP⟩ : ∃ bP, wr.heap.size = bP := ⟨_, rfl⟩
    obtain ⟨bY, hbY⟩ : ∃ bY, wr.heap.size + 1 = bY := ⟨_, rfl⟩
    have HBP := Lib.hid (show bq < bP ∧ bP < bY by have := (Array.getElem?_eq_some_iff.1 KB1.out.zq).1; omega)
    have KP := Lib.hid (KB1.out.below bb)
    have PP := Lib.hid (show Wp.heap[bP]? = some (.cells #[.int .i64 (k : Int)] 3 (0, 0)) by rw [← hWp]; exact alloc_keep (alloc_at hbP))
    have YP := Lib.hid (show Wp.heap[bY]? = some (.cells #[.int .i64 0] 3 (0, 0)) by rw [← hWp]; exact alloc_at (by simp [hbY]))
    rw [hWp, hbY, hbP]
    clear hWp bb hbP hbY KB1
    have go0 : Wp.cell? ⟨w.heap.size, 0, none⟩ = some (.slice o.aS o.nS o.cS) := cell_of_block KP.out.z0 0 (by simp)
    have go1 : Wp.cell? ⟨w.heap.size, 1, none⟩ = some (.int .i64 o.kl) := cell_of_block KP.out.z0 1 (by simp)
    have go2 : Wp.cell? ⟨w.heap.size, 2, none⟩ = some (.int .i64 o.kh) := cell_of_block KP.out.z0 2 (by simp)
    have go3 : Wp.cell? ⟨w.heap.size, 3, none⟩ = some (.slice o.aA o.nA o.cA) := cell_of_block KP.out.z0 3 (by simp)
    have go4 : Wp.cell? ⟨w.heap.size, 4, none⟩ = some (.slice o.aP o.nP o.cP) := cell_of_block KP.out.z0 4 (by simp)
    have gy0 : Wp.cell? ⟨w.heap.size + 1, 0, none⟩ = some (.slice y.aR y.nR y.cR) := cell_of_block KP.out.z1 0 (by simp)
    have gy1 : Wp.cell? ⟨w.heap.size + 1, 1, none⟩ = some (.slice y.aM y.nM y.cM) := cell_of_block KP.out.z1 1 (by simp)
    have gy2 : Wp.cell? ⟨w.heap.size + 1, 2, none⟩ = some (.int .i64 y.lot) := cell_of_block KP.out.z1 2 (by simp)
    have gy3 : Wp.cell? ⟨w.heap.size + 1, 3, none⟩ = some (.int .i64 y.room) := cell_of_block KP.out.z1 3 (by simp)
    have glo := (Array.getElem?_eq_some_iff.1 KP.out.z0).1
    have gly := (Array.getElem?_eq_some_iff.1 KP.out.z1).1
    have gp : Wp.cell? ⟨bP, 0, none⟩ = some (.int .i64 (k : Int)) := box_cell PP.out
    have glp := (Array.getElem?_eq_some_iff.1 PP.out).1
    gi_wp2_with fail
    refine ⟨trivial, (fun h => (by cases h)), ?_⟩
    have YA := years_any o y aL m cL k 53 36 #[.pointer (some ⟨bq, 0, none⟩)] #[] Wp
    unfold Otl.val Lyg.val at YA
    (with_reducible refine (callsIn_wide.2 YA).mono ?_)
    rintro e V1 ⟨bo, bl, bp, by', br, bt, rfl, hge, y0, y1, y2, y3, y4, y5, hb0⟩
    clear YA gp glp go0 go1 go2 go3 go4 gy0 gy1 gy2 gy3 glo gly
    have KA1 := Lib.hid (KP.out.below hb0)
    have PA1 := Lib.hid ((hb0.block _ (Array.getElem?_eq_some_iff.1 PP.out).1).trans PP.out)
    have YRA1 := Lib.hid ((hb0.block _ (Array.getElem?_eq_some_iff.1 YP.out).1).trans YP.out)
    have hbY1 : bY < V1.heap.size := by have := (Array.getElem?_eq_some_iff.1 YRA1.out).1; omega
    have hbq1 : bq < bP := HBP.out.1
    have hms1 : ∀ E, E ∈ ms → E < V1.heap.size := fun E hE => (Array.getElem?_eq_some_iff.1 (KA1.out.mks E hE)).1
    have hmY1 : bY ∉ ms := fun hE => by have e1 := KA1.out.mks bY hE; have e2 := YRA1.out; rw [e1] at e2; cases e2
    have hY5 : bY < Wp.heap.size := (Array.getElem?_eq_some_iff.1 YP.out).1
    have GE1 := Lib.hid (show (bY < bo ∧ bY < bl ∧ bY < bp) ∧ (bY < by' ∧ bY < br ∧ bY < bt) by omega)
    have YY1 := Lib.hid (And.intro y0 (And.intro y1 (And.intro y2 (And.intro y3 (And.intro y4 (And.intro y5 (And.intro KA1.out.zq KA1.out.z1)))))))
    have MS1 := Lib.hid (And.intro hms1 hmY1)
    clear y0 y1 y2 y3 y4 y5 hb0 hge hms1 hmY1 hY5
    obtain ⟨X, hX⟩ : ∃ X, X = [bo, bl, bp, by', br, bt, bq, w.heap.size + 1] := ⟨_, rfl⟩
    have HXX := Lib.hid hX; clear hX
    obtain ⟨qa, hq⟩ : ∃ qa, upto (o.errLo y k L) m = qa := ⟨_, rfl⟩
    have q1 := upto_le (o.errLo y k L) m
    have q2 := upto_zero (o.errLo y k L) m
    have q3 := upto_stop (o.errLo y k L) m
    rw [hq] at q1 q2 q3
    have Q1 := Lib.hid (And.intro q2 (And.intro q3 hq)); clear q2 q3 hq
    gi_wp2_with fail
    refine wpIn_rangeFunc_X (gf := 55) (lb := #[.pointer (some ⟨bo, 0, none⟩), .pointer (some ⟨bl, 0, none⟩), .pointer (some ⟨bp, 0, none⟩), .pointer (some ⟨by', 0, none⟩), .pointer (some ⟨br, 0, none⟩), .pointer (some ⟨bt, 0, none⟩)]) rfl (enters_of Try.func55 (by kernel_rfl) rfl)
      (fun rec e W => (∃ v, e = .returned v) ∧ ((qa = m ∧ ∃ K, (fun (_ : Nat) => KpJ o y w bq ms V1.heap.size rec bP bY k m W) K) ∨ (qa < m ∧ KpX w ms V1.heap.size rec k qa (o.errLo y k L qa) W))) ?call1 ?ret1 ?out1
    case out1 => rintro rec e W ⟨h, _⟩; exact h
    case call1 =>
      intro rec r1 r2 r3 r4 r5 r6
      obtain ⟨W2, hW2⟩ : ∃ W2, (V1.alloc (.deferred (some []))).alloc (.loop rec) = W2 := ⟨_, rfl⟩
      have hB2 : Below V1.heap.size V1 W2 := by rw [← hW2]; exact (below_alloc _ _).alloc (by simp) _
      have hl2 : W2.heap[V1.heap.size + 1]? = some (.loop rec) := by rw [← hW2]; exact alloc_at (by simp)
      have hd2 : W2.heap[V1.heap.size]? = some (.deferred (some [])) := by rw [← hW2]; exact alloc_keep (alloc_at rfl)
      have hs2 : W2.heap.size = V1.heap.size + 2 := by rw [← hW2]; simp
      rw [hW2]
      clear hW2
      have k2 : ∀ (B : Nat) (ob : Obj), V1.heap[B]? = some ob → W2.heap[B]? = some ob := fun B ob hob => (hB2.block B (Array.getElem?_eq_some_iff.1 hob).1).trans hob
      obtain ⟨y0, y1, y2, y3, y4, y5, yq, yy⟩ := YY1.out
      have hYB : YBox o y k m cL aL 53 36 #[.pointer (some ⟨bq, 0, none⟩)] #[] bo bl bp by' br bt X W2 := by
        have e := HXX.out
        subst e
        exact ⟨k2 _ _ y0, by simp, k2 _ _ y1, by simp, k2 _ _ y2, by simp, k2 _ _ y3, by simp, k2 _ _ y4, by simp, k2 _ _ y5, by simp⟩
      have hbqX : bq ∈ X := by rw [HXX.out]; simp
      have hbyX : w.heap.size + 1 ∈ X := by rw [HXX.out]; simp
      have hXW : ∀ b, b ∈ X → b < V1.heap.size ∧ b ≠ bY := by
        intro b hb
        rw [HXX.out] at hb
        have L := fun {B : Nat} {ob : Obj} (h : V1.heap[B]? = some ob) => (Array.getElem?_eq_some_iff.1 h).1
        have ge := GE1.out
        have q5 := KA1.out.bq5
        simp only [List.mem_cons, List.not_mem_nil, or_false] at hb
        rcases hb with rfl | rfl | rfl | rfl | rfl | rfl | rfl | rfl
        · exact ⟨L y0, by have := HBP.out; omega⟩
        · exact ⟨L y1, by have := HBP.out; omega⟩
        · exact ⟨L y2, by have := HBP.out; omega⟩
        · exact ⟨L y3, by have := HBP.out; omega⟩
        · exact ⟨L y4, by have := HBP.out; omega⟩
        · exact ⟨L y5, by have := HBP.out; omega⟩
        · exact ⟨L yq, by have := HBP.out; omega⟩
        · exact ⟨L yy, by have := HBP.out; omega⟩
      have hXlt : ∀ b, b ∈ X → b < W2.heap.size := fun b hb => by have := (hXW b hb).1; omega
      have zq2 := k2 _ _ yq
      have zy2 := k2 _ _ yy
      refine years1_in (n - 1) (V1.heap.size + 1) o y k m cL aL L 53 36 #[.pointer (some ⟨bq, 0, none⟩)] #[] (fun _ _ => rfl) (fun _ _ => rfl) anyRoom (parLo o) bo bl bp by' br bt w W2 X qa (HRO.out k _ hlt HPLO.out) HO0.out HL0.out (KA1.out.low.trans (hB2.mono KA1.out.low.size)) hYB hXlt
        (fun V x _ => (anything_any x V)) (fun V x hA h0 h1 => parLo_any o x bq V (cell_of_block ((hA bq hbqX).trans zq2) 1 (by simp)) h0 h1 KL.out.1 (by have := KL.out; omega)) q1 (fun t ht => Q1.out.1 t ht) (fun h => Q1.out.2.1 h)
        (fun _ j V => KpJ o y w bq ms V1.heap.size rec bP bY k j V) (fun V => KpX w ms V1.heap.size rec k qa (o.errLo y k L qa) V) ?abide1 ?start1 ?round1
      case abide1 => exact fun K j V V' hK h g => h.kept g (by omega) MS1.out.1 (by have := HBP.out; omega) (by have := HBP.out; omega) (by omega) (by have := KA1.out.bq5; have := HBP.out; omega)
      case start1 => exact fun K V hK hb => ⟨(hb.block _ (by omega)).trans hl2, (hb.block _ (by omega)).trans hd2, (hb.block _ (by have := (Array.getElem?_eq_some_iff.1 (k2 _ _ PA1.out)).1; omega)).trans (k2 _ _ PA1.out), (hb.block _ (by omega)).trans (k2 _ _ YRA1.out), (KA1.out.below hB2).below hb⟩
      case round1 =>
        intro K j V hK hKV hJ hA hlow hjm hjq
        refine yieldAt_J hJ.loop r1 r3 r4 r5 r6 rfl ?_
        have YO := yrAt_ok (room := anyRoom) (HRO.out k _ hlt HPLO.out) hjm
        have EE : o.errLo y k L j = (o.yrAt k L y.lot anyRoom (parLo o) j).2 := rfl
        obtain ⟨c', e', hE⟩ : ∃ c' e', o.yrAt k L y.lot anyRoom (parLo o) j = (c', e') := ⟨_, _, rfl⟩
        rw [hE] at YO EE ⊢
        dsimp only at YO EE ⊢
        have YO := Lib.hid YO
        have EE := Lib.hid EE
        have HJ := Lib.hid hJ
        have HA := Lib.hid hA
        have HL2 := Lib.hid hs2
        have HXW := Lib.hid hXW
        clear hJ hA hlow r3 r4 r5 r6 hE hl2 hd2 hs2 hB2 k2 y0 y1 y2 y3 y4 y5 yq yy hYB hbqX hbyX hXlt hXW zq2 zy2
        gi_wp2_with fail
        refine ⟨HJ.out.loop, ?_⟩
        have hlv := (Array.getElem?_eq_some_iff.1 HJ.out.loop).1
        obtain ⟨Wb, hWb⟩ : ∃ Wb, V.putObj (V1.heap.size + 1) (.loop { rec with state := .busy }) = Wb := ⟨_, rfl⟩
        have hg1 : V.grownBy Wb (some (V1.heap.size + 1)) := by rw [← hWb]; exact grownBy_putObj' _ _ _
        have hlb : Wb.heap[V1.heap.size + 1]? = some (.loop { rec with state := .busy }) := by rw [← hWb]; exact World.putObj_heap_same hlv
        rw [hWb]
        clear hWb
        have kk : ∀ (B : Nat) (ob : Obj), V.heap[B]? = some ob → B ≠ V1.heap.size + 1 → Wb.heap[B]? = some ob := fun B ob hob hne => (hg1.block B (Array.getElem?_eq_some_iff.1 hob).1 (by simpa using hne)).trans hob
        have dd : V1.heap.size + 1 < V.heap.size := hlv
        have hz4 := (Array.getElem?_eq_some_iff.1 KA1.out.z4).1
        have by0 := kk _ _ HJ.out.year (by omega)
        have bp0 := kk _ _ HJ.out.path (by have := HBP.out; omega)
        have b2 := kk _ _ HJ.out.b.z2 (by omega)
        have b3 := kk _ _ HJ.out.b.z3 (by omega)
        have b4 := kk _ _ HJ.out.b.z4 (by omega)
        have vY := box_cell by0
        have vP := box_cell bp0
        have v2 := box_cell b2
        have v3 := box_cell b3
        have v4 := box_cell b4
        have fY := frozen_of_block by0 0
        have f2 := frozen_of_block b2 0
        have f3 := frozen_of_block b3 0
        have f4 := frozen_of_block b4 0
        have lY := (Array.getElem?_eq_some_iff.1 by0).1
        have lP := (Array.getElem?_eq_some_iff.1 bp0).1
        have l2 := (Array.getElem?_eq_some_iff.1 b2).1
        have l3 := (Array.getElem?_eq_some_iff.1 b3).1
        have l4 := (Array.getElem?_eq_some_iff.1 b4).1
        have HG1 := Lib.hid hg1
        have HLB := Lib.hid hlb
        have BY0 := Lib.hid by0
        clear hg1 hlb kk by0 bp0 b2 b3 b4 hlv
        by_cases he : e' = 0
        · have d0 : (e' != 0) = false := by simp [he]
          have HE0 := Lib.hid he; clear he
          gi_wp2_with fail
          obtain ⟨hl3, hJ3, hg3⟩ := KpJ.next HJ.out HG1.out HLB.out MS1.out.1 (by have := HBP.out; omega) HBP.out.2 hbY1 (by have := KA1.out.bq5; have := HBP.out; omega) rfl MS1.out.2
          refine ⟨_, _, run_endRound none hl3, .inl ⟨HE0.out, rfl, ?_⟩⟩
          simp only [Option.isNone_none, if_true]
          rw [loop_again r1 r2]
          have a5 := KA1.out.bq5
          refine ⟨hJ3, (Below.refl w.heap.size V).grown hg3 (by have := HJ.out.b.low.size; omega) (fun k e => by cases e; have := HBP.out; omega), fun b hb => hg3.block b (by have := (HXW.out b hb).1; omega) (fun e => (HXW.out b hb).2 (by cases e; rfl)), hg3.block K hKV (fun e => by cases e; have := HL2.out; omega)⟩
        · have d0 : (e' != 0) = true := by simp [he]
          have HE0 := Lib.hid he; clear he
          have ejq : j = qa := by
            rcases Nat.lt_or_ge j qa with h | h
            · exact absurd (EE.out.symm.trans (Q1.out.1 j h)) HE0.out
            · omega
          have EJQ := Lib.hid ejq; clear ejq
          gi_wp2_with fail
          have nP : bP ≠ w.heap.size + 1 + 1 ∧ bP ≠ w.heap.size + 1 + 1 + 1 ∧ bP ≠ w.heap.size + 1 + 1 + 1 + 1 := by have := HBP.out; have := KA1.out.bq5; omega
          have nY : bY ≠ w.heap.size + 1 + 1 ∧ bY ≠ w.heap.size + 1 + 1 + 1 ∧ bY ≠ w.heap.size + 1 + 1 + 1 + 1 := by have := HBP.out; have := KA1.out.bq5; omega
          have far : ∀ (W : World) (b k : Nat) (v : Value) (B : Nat), B ≠ b → (W.setCell ⟨b, k, none⟩ v).heap[B]? = W.heap[B]? := fun W b k v B h => Below.heap_setCell W ⟨b, k, none⟩ v B h
          haveI hne : Nonempty (KeepW Wb [bP, bY]) := ⟨⟨Wb, fun _ _ => rfl⟩⟩
          refine wpIn_region_steps (fun w' => ∃ x : KeepW Wb [bP, bY], w' = x.w) [([0, 1, 2], 3), ([], 4), ([], 5)] [] [] (fun ⟨_, _, h⟩ => h) (by kernel_rfl) (by kernel_rfl) (by kernel_rfl) ?_
          rintro _ ⟨x0, rfl⟩
          refine ⟨keep2 (gw_block Wb x0 _ lP) (gw_block Wb x0 _ lY), ?_⟩
          refine wpSeg_cons ?_
          simp only [pickL, List.getElem?_cons_zero, List.getElem?_cons_succ]
          repeat (go_big_quiet_step (fail))
          refine wpQuiet_nil ?_
          go_wp2_with fail
          refine contQ_now ⟨keep2 ((far _ _ _ _ _ nP.1).trans (gw_block Wb x0 _ lP)) ((far _ _ _ _ _ nY.1).trans (gw_block Wb x0 _ lY)), ?_⟩
          refine wpSeg_cons ?_
          simp only [pickL, List.getElem?_cons_zero, List.getElem?_cons_succ]
          repeat (go_big_quiet_step (fail))
          refine wpQuiet_nil ?_
          go_wp2_with fail
          refine contQ_now ⟨keep2 ((far _ _ _ _ _ nP.2.1).trans ((far _ _ _ _ _ nP.1).trans (gw_block Wb x0 _ lP))) ((far _ _ _ _ _ nY.2.1).trans ((far _ _ _ _ _ nY.1).trans (gw_block Wb x0 _ lY))), ?_⟩
          refine wpSeg_cons ?_
          simp only [pickL, List.getElem?_cons_zero, List.getElem?_cons_succ]
          repeat (go_big_quiet_step (fail))
          refine wpQuiet_nil ?_
          go_wp2_with fail
          refine contQ_now ⟨keep2 ((far _ _ _ _ _ nP.2.2).trans ((far _ _ _ _ _ nP.2.1).trans ((far _ _ _ _ _ nP.1).trans (gw_block Wb x0 _ lP)))) ((far _ _ _ _ _ nY.2.2).trans ((far _ _ _ _ _ nY.2.1).trans ((far _ _ _ _ _ nY.1).trans (gw_block Wb x0 _ lY)))), ?_⟩
          refine wpSeg_nil ?_
          simp only [pickL, List.getElem?_cons_zero, List.getElem?_cons_succ]
          repeat (go_big_quiet_step (fail))
          refine wpQuiet_nil ?_
          refine contN_nil ?_
          gi_wp2_with fail
          obtain ⟨hl3, hX3⟩ := KpX.of (j := j) (e := e') HJ.out HG1.out HLB.out (below_gw Wb x0) MS1.out.1 (by have := KA1.out.bq5; have := HBP.out; omega) rfl
          refine ⟨_, _, run_endRound (some .ret) hl3, .inr ⟨HE0.out, rfl, ?_⟩⟩
          have e9 := EJQ.out
          subst e9
          rw [EE.out]
          exact hX3
    case ret1 =>
      rintro rec v W r1 r2 ⟨-, ⟨hqm, K, hJ⟩ | ⟨hqm, hX⟩⟩
      · refine ⟨rec, hJ.loop, by rw [r1]; simp, ?_⟩
        rw [r2]
        obtain ⟨U1, hU⟩ : ∃ U, W.putObj (V1.heap.size + 1) (.loop { rec with state := .exhausted }) = U := ⟨_, rfl⟩
        have hg5 : W.grownBy U1 (some (V1.heap.size + 1)) := by rw [← hU]; exact grownBy_putObj' _ _ _
        simp only [← r2] at *
        rw [hU]
        clear hU
        have same : ∀ (B : Nat) (ob : Obj), W.heap[B]? = some ob → B ≠ V1.heap.size + 1 → U1.heap[B]? = some ob := fun B ob ho hB => (hg5.block B (Array.getElem?_eq_some_iff.1 ho).1 (by simpa using hB)).trans ho
        have a5 := KA1.out.bq5
        have hKB5 := hJ.b.grown hg5 (fun b e => by cases e; have := HBP.out; exact ⟨by omega, by omega, fun hE => by have := MS1.out.1 _ hE; omega⟩)
        have KM1 := Lib.hid (hKB5.mark (same _ _ hJ.dfr (by omega)) (by have := HBP.out; omega) (fun hE => by have := MS1.out.1 _ hE; omega))
        have PM1 := Lib.hid (same _ _ hJ.path (by have := HBP.out; omega))
        have YM1 := Lib.hid (same _ _ hJ.year (by omega))
        have HQM1 := Lib.hid hqm
        clear hg5 same hKB5 hJ hqm a5 r1 r2
        have yc := box_cell YM1.out
        have yf := frozen_of_block YM1.out 0
        have yl := (Array.getElem?_eq_some_iff.1 YM1.out).1
        gi_upto_region 15 with (fail)
        obtain ⟨Wq, hWq⟩ : ∃ Wq, U1.setCell ⟨bY, 0, none⟩ (.int .i64 0) = Wq := ⟨_, rfl⟩
        have gq : U1.grownBy Wq (some bY) := by rw [← hWq]; exact grownBy_set _ _ _ _
        have mY : bY ∉ V1.heap.size :: ms := fun hE => by have e1 := KM1.out.mks bY hE; have e2 := YM1.out; rw [e1] at e2; cases e2
        have KQ := Lib.hid (KM1.out.grown gq (fun b e => by cases e; have := HBP.out; have := KM1.out.bq5; exact ⟨by omega, by omega, mY⟩))
        have PQ := Lib.hid ((gq.block _ (Array.getElem?_eq_some_iff.1 PM1.out).1 (by have := HBP.out; simp; omega)).trans PM1.out)
        have YQ := Lib.hid (show Wq.heap[bY]? = some (.cells #[.int .i64 0] 3 (0, 0)) by rw [← hWq]; exact block_set 0 _ YM1.out)
        rw [hWq]
        clear hWq gq mY yc yf yl
        have go0 : Wq.cell? ⟨w.heap.size, 0, none⟩ = some (.slice o.aS o.nS o.cS) := cell_of_block KQ.out.z0 0 (by simp)
        have go1 : Wq.cell? ⟨w.heap.size, 1, none⟩ = some (.int .i64 o.kl) := cell_of_block KQ.out.z0 1 (by simp)
        have go2 : Wq.cell? ⟨w.heap.size, 2, none⟩ = some (.int .i64 o.kh) := cell_of_block KQ.out.z0 2 (by simp)
        have go3 : Wq.cell? ⟨w.heap.size, 3, none⟩ = some (.slice o.aA o.nA o.cA) := cell_of_block KQ.out.z0 3 (by simp)
        have go4 : Wq.cell? ⟨w.heap.size, 4, none⟩ = some (.slice o.aP o.nP o.cP) := cell_of_block KQ.out.z0 4 (by simp)
        have gy0 : Wq.cell? ⟨w.heap.size + 1, 0, none⟩ = some (.slice y.aR y.nR y.cR) := cell_of_block KQ.out.z1 0 (by simp)
        have gy1 : Wq.cell? ⟨w.heap.size + 1, 1, none⟩ = some (.slice y.aM y.nM y.cM) := cell_of_block KQ.out.z1 1 (by simp)
        have gy2 : Wq.cell? ⟨w.heap.size + 1, 2, none⟩ = some (.int .i64 y.lot) := cell_of_block KQ.out.z1 2 (by simp)
        have gy3 : Wq.cell? ⟨w.heap.size + 1, 3, none⟩ = some (.int .i64 y.room) := cell_of_block KQ.out.z1 3 (by simp)
        have glo := (Array.getElem?_eq_some_iff.1 KQ.out.z0).1
        have gly := (Array.getElem?_eq_some_iff.1 KQ.out.z1).1
        have gp : Wq.cell? ⟨bP, 0, none⟩ = some (.int .i64 (k : Int)) := box_cell PQ.out
        have glp := (Array.getElem?_eq_some_iff.1 PQ.out).1
        gi_wp2_with fail
        refine ⟨trivial, (fun h => (by cases h)), ?_⟩
        have YA := years_any o y aL m cL k 54 40 #[.pointer (some ⟨bq, 0, none⟩)] #[.pointer (some ⟨w.heap.size + 1, 0, none⟩)] Wq
        unfold Otl.val Lyg.val at YA
        (with_reducible refine (callsIn_wide.2 YA).mono ?_)
        rintro e V2 ⟨bo, bl, bp, by', br, bt, rfl, hge, y0, y1, y2, y3, y4, y5, hb0⟩
        clear YA gp glp go0 go1 go2 go3 go4 gy0 gy1 gy2 gy3 glo gly
        have KA2 := Lib.hid (KQ.out.below hb0)
        have PA2 := Lib.hid ((hb0.block _ (Array.getElem?_eq_some_iff.1 PQ.out).1).trans PQ.out)
        have YRA2 := Lib.hid ((hb0.block _ (Array.getElem?_eq_some_iff.1 YQ.out).1).trans YQ.out)
        have hbY2 : bY < V2.heap.size := by have := (Array.getElem?_eq_some_iff.1 YRA2.out).1; omega
        have hbq2 : bq < bP := HBP.out.1
        have hms2 : ∀ E, E ∈ (V1.heap.size :: ms) → E < V2.heap.size := fun E hE => (Array.getElem?_eq_some_iff.1 (KA2.out.mks E hE)).1
        have hmY2 : bY ∉ (V1.heap.size :: ms) := fun hE => by have e1 := KA2.out.mks bY hE; have e2 := YRA2.out; rw [e1] at e2; cases e2
        have hY5 : bY < Wq.heap.size := (Array.getElem?_eq_some_iff.1 YQ.out).1
        have GE2 := Lib.hid (show (bY < bo ∧ bY < bl ∧ bY < bp) ∧ (bY < by' ∧ bY < br ∧ bY < bt) by omega)
        have YY2 := Lib.hid (And.intro y0 (And.intro y1 (And.intro y2 (And.intro y3 (And.intro y4 (And.intro y5 (And.intro KA2.out.zq KA2.out.z1)))))))
        have MS2 := Lib.hid (And.intro hms2 hmY2)
        clear y0 y1 y2 y3 y4 y5 hb0 hge hms2 hmY2 hY5
        obtain ⟨X, hX⟩ : ∃ X, X = [bo, bl, bp, by', br, bt, bq, w.heap.size + 1] := ⟨_, rfl⟩
        have HXX := Lib.hid hX; clear hX
        obtain ⟨qb, hq⟩ : ∃ qb, upto (o.errHi y k L) m = qb := ⟨_, rfl⟩
        have q1 := upto_le (o.errHi y k L) m
        have q2 := upto_zero (o.errHi y k L) m
        have q3 := upto_stop (o.errHi y k L) m
        rw [hq] at q1 q2 q3
        have Q2 := Lib.hid (And.intro q2 (And.intro q3 hq)); clear q2 q3 hq
        gi_wp2_with fail
        refine wpIn_rangeFunc_X (gf := 55) (lb := #[.pointer (some ⟨bo, 0, none⟩), .pointer (some ⟨bl, 0, none⟩), .pointer (some ⟨bp, 0, none⟩), .pointer (some ⟨by', 0, none⟩), .pointer (some ⟨br, 0, none⟩), .pointer (some ⟨bt, 0, none⟩)]) rfl (enters_of Try.func55 (by kernel_rfl) rfl)
          (fun rec e W => (∃ v, e = .returned v) ∧ ((qb = m ∧ ∃ K, (fun (_ : Nat) => KpJ o y w bq (V1.heap.size :: ms) V2.heap.size rec bP bY k m W) K) ∨ (qb < m ∧ KpX w (V1.heap.size :: ms) V2.heap.size rec k qb (o.errHi y k L qb) W))) ?call2 ?ret2 ?out2
        case out2 => rintro rec e W ⟨h, _⟩; exact h
        case call2 =>
          intro rec r1 r2 r3 r4 r5 r6
          obtain ⟨W2, hW2⟩ : ∃ W2, (V2.alloc (.deferred (some []))).alloc (.loop rec) = W2 := ⟨_, rfl⟩
          have hB2 : Below V2.heap.size V2 W2 := by rw [← hW2]; exact (below_alloc _ _).alloc (by simp) _
          have hl2 : W2.heap[V2.heap.size + 1]? = some (.loop rec) := by rw [← hW2]; exact alloc_at (by simp)
          have hd2 : W2.heap[V2.heap.size]? = some (.deferred (some [])) := by rw [← hW2]; exact alloc_keep (alloc_at rfl)
          have hs2 : W2.heap.size = V2.heap.size + 2 := by rw [← hW2]; simp
          rw [hW2]
          clear hW2
          have k2 : ∀ (B : Nat) (ob : Obj), V2.heap[B]? = some ob → W2.heap[B]? = some ob := fun B ob hob => (hB2.block B (Array.getElem?_eq_some_iff.1 hob).1).trans hob
          obtain ⟨y0, y1, y2, y3, y4, y5, yq, yy⟩ := YY2.out
          have hYB : YBox o y k m cL aL 54 40 #[.pointer (some ⟨bq, 0, none⟩)] #[.pointer (some ⟨w.heap.size + 1, 0, none⟩)] bo bl bp by' br bt X W2 := by
            have e := HXX.out
            subst e
            exact ⟨k2 _ _ y0, by simp, k2 _ _ y1, by simp, k2 _ _ y2, by simp, k2 _ _ y3, by simp, k2 _ _ y4, by simp, k2 _ _ y5, by simp⟩
          have hbqX : bq ∈ X := by rw [HXX.out]; simp
          have hbyX : w.heap.size + 1 ∈ X := by rw [HXX.out]; simp
          have hXW : ∀ b, b ∈ X → b < V2.heap.size ∧ b ≠ bY := by
            intro b hb
            rw [HXX.out] at hb
            have L := fun {B : Nat} {ob : Obj} (h : V2.heap[B]? = some ob) => (Array.getElem?_eq_some_iff.1 h).1
            have ge := GE2.out
            have q5 := KA2.out.bq5
            simp only [List.mem_cons, List.not_mem_nil, or_false] at hb
            rcases hb with rfl | rfl | rfl | rfl | rfl | rfl | rfl | rfl
            · exact ⟨L y0, by have := HBP.out; omega⟩
            · exact ⟨L y1, by have := HBP.out; omega⟩
            · exact ⟨L y2, by have := HBP.out; omega⟩
            · exact ⟨L y3, by have := HBP.out; omega⟩
            · exact ⟨L y4, by have := HBP.out; omega⟩
            · exact ⟨L y5, by have := HBP.out; omega⟩
            · exact ⟨L yq, by have := HBP.out; omega⟩
            · exact ⟨L yy, by have := HBP.out; omega⟩
          have hXlt : ∀ b, b ∈ X → b < W2.heap.size := fun b hb => by have := (hXW b hb).1; omega
          have zq2 := k2 _ _ yq
          have zy2 := k2 _ _ yy
          refine years1_in (n - 1) (V2.heap.size + 1) o y k m cL aL L 54 40 #[.pointer (some ⟨bq, 0, none⟩)] #[.pointer (some ⟨w.heap.size + 1, 0, none⟩)] (fun _ _ => rfl) (fun _ _ => rfl) y.roomB (parHi o) bo bl bp by' br bt w W2 X qb (HRO.out k _ hlt HPHI.out) HO0.out HL0.out (KA2.out.low.trans (hB2.mono KA2.out.low.size)) hYB hXlt
            (fun V x hA => room1_any x y.room (w.heap.size + 1) V (cell_of_block ((hA _ hbyX).trans zy2) 3 (by simp))) (fun V x hA h0 h1 => parHi_any o x bq V (cell_of_block ((hA bq hbqX).trans zq2) 2 (by simp)) h0 h1 (by have := KL.out; omega) (by have := KL.out; omega)) q1 (fun t ht => Q2.out.1 t ht) (fun h => Q2.out.2.1 h)
            (fun _ j V => KpJ o y w bq (V1.heap.size :: ms) V2.heap.size rec bP bY k j V) (fun V => KpX w (V1.heap.size :: ms) V2.heap.size rec k qb (o.errHi y k L qb) V) ?abide2 ?start2 ?round2
          case abide2 => exact fun K j V V' hK h g => h.kept g (by omega) MS2.out.1 (by have := HBP.out; omega) (by have := HBP.out; omega) (by omega) (by have := KA2.out.bq5; have := HBP.out; omega)
          case start2 => exact fun K V hK hb => ⟨(hb.block _ (by omega)).trans hl2, (hb.block _ (by omega)).trans hd2, (hb.block _ (by have := (Array.getElem?_eq_some_iff.1 (k2 _ _ PA2.out)).1; omega)).trans (k2 _ _ PA2.out), (hb.block _ (by omega)).trans (k2 _ _ YRA2.out), (KA2.out.below hB2).below hb⟩
          case round2 =>
            intro K j V hK hKV hJ hA hlow hjm hjq
            refine yieldAt_J hJ.loop r1 r3 r4 r5 r6 rfl ?_
            have YO := yrAt_ok (room := y.roomB) (HRO.out k _ hlt HPHI.out) hjm
            have EE : o.errHi y k L j = (o.yrAt k L y.lot y.roomB (parHi o) j).2 := rfl
            obtain ⟨c', e', hE⟩ : ∃ c' e', o.yrAt k L y.lot y.roomB (parHi o) j = (c', e') := ⟨_, _, rfl⟩
            rw [hE] at YO EE ⊢
            dsimp only at YO EE ⊢
            have YO := Lib.hid YO
            have EE := Lib.hid EE
            have HJ := Lib.hid hJ
            have HA := Lib.hid hA
            have HL2 := Lib.hid hs2
            have HXW := Lib.hid hXW
            clear hJ hA hlow r3 r4 r5 r6 hE hl2 hd2 hs2 hB2 k2 y0 y1 y2 y3 y4 y5 yq yy hYB hbqX hbyX hXlt hXW zq2 zy2
            gi_wp2_with fail
            refine ⟨HJ.out.loop, ?_⟩
            have hlv := (Array.getElem?_eq_some_iff.1 HJ.out.loop).1
            obtain ⟨Wb, hWb⟩ : ∃ Wb, V.putObj (V2.heap.size + 1) (.loop { rec with state := .busy }) = Wb := ⟨_, rfl⟩
            have hg1 : V.grownBy Wb (some (V2.heap.size + 1)) := by rw [← hWb]; exact grownBy_putObj' _ _ _
            have hlb : Wb.heap[V2.heap.size + 1]? = some (.loop { rec with state := .busy }) := by rw [← hWb]; exact World.putObj_heap_same hlv
            rw [hWb]
            clear hWb
            have kk : ∀ (B : Nat) (ob : Obj), V.heap[B]? = some ob → B ≠ V2.heap.size + 1 → Wb.heap[B]? = some ob := fun B ob hob hne => (hg1.block B (Array.getElem?_eq_some_iff.1 hob).1 (by simpa using hne)).trans hob
            have dd : V2.heap.size + 1 < V.heap.size := hlv
            have hz4 := (Array.getElem?_eq_some_iff.1 KA2.out.z4).1
            have by0 := kk _ _ HJ.out.year (by omega)
            have bp0 := kk _ _ HJ.out.path (by have := HBP.out; omega)
            have b2 := kk _ _ HJ.out.b.z2 (by omega)
            have b3 := kk _ _ HJ.out.b.z3 (by omega)
            have b4 := kk _ _ HJ.out.b.z4 (by omega)
            have vY := box_cell by0
            have vP := box_cell bp0
            have v2 := box_cell b2
            have v3 := box_cell b3
            have v4 := box_cell b4
            have fY := frozen_of_block by0 0
            have f2 := frozen_of_block b2 0
            have f3 := frozen_of_block b3 0
            have f4 := frozen_of_block b4 0
            have lY := (Array.getElem?_eq_some_iff.1 by0).1
            have lP := (Array.getElem?_eq_some_iff.1 bp0).1
            have l2 := (Array.getElem?_eq_some_iff.1 b2).1
            have l3 := (Array.getElem?_eq_some_iff.1 b3).1
            have l4 := (Array.getElem?_eq_some_iff.1 b4).1
            have HG1 := Lib.hid hg1
            have HLB := Lib.hid hlb
            have BY0 := Lib.hid by0
            clear hg1 hlb kk by0 bp0 b2 b3 b4 hlv
            by_cases he : e' = 0
            · have d0 : (e' != 0) = false := by simp [he]
              have HE0 := Lib.hid he; clear he
              gi_wp2_with fail
              obtain ⟨hl3, hJ3, hg3⟩ := KpJ.next HJ.out HG1.out HLB.out MS2.out.1 (by have := HBP.out; omega) HBP.out.2 hbY2 (by have := KA2.out.bq5; have := HBP.out; omega) rfl MS2.out.2
              refine ⟨_, _, run_endRound none hl3, .inl ⟨HE0.out, rfl, ?_⟩⟩
              simp only [Option.isNone_none, if_true]
              rw [loop_again r1 r2]
              have a5 := KA2.out.bq5
              refine ⟨hJ3, (Below.refl w.heap.size V).grown hg3 (by have := HJ.out.b.low.size; omega) (fun k e => by cases e; have := HBP.out; omega), fun b hb => hg3.block b (by have := (HXW.out b hb).1; omega) (fun e => (HXW.out b hb).2 (by cases e; rfl)), hg3.block K hKV (fun e => by cases e; have := HL2.out; omega)⟩
            · have d0 : (e' != 0) = true := by simp [he]
              have HE0 := Lib.hid he; clear he
              have ejq : j = qb := by
                rcases Nat.lt_or_ge j qb with h | h
                · exact absurd (EE.out.symm.trans (Q2.out.1 j h)) HE0.out
                · omega
              have EJQ := Lib.hid ejq; clear ejq
              gi_wp2_with fail
              have nP : bP ≠ w.heap.size + 1 + 1 ∧ bP ≠ w.heap.size + 1 + 1 + 1 ∧ bP ≠ w.heap.size + 1 + 1 + 1 + 1 := by have := HBP.out; have := KA2.out.bq5; omega
              have nY : bY ≠ w.heap.size + 1 + 1 ∧ bY ≠ w.heap.size + 1 + 1 + 1 ∧ bY ≠ w.heap.size + 1 + 1 + 1 + 1 := by have := HBP.out; have := KA2.out.bq5; omega
              have far : ∀ (W : World) (b k : Nat) (v : Value) (B : Nat), B ≠ b → (W.setCell ⟨b, k, none⟩ v).heap[B]? = W.heap[B]? := fun W b k v B h => Below.heap_setCell W ⟨b, k, none⟩ v B h
              haveI hne : Nonempty (KeepW Wb [bP, bY]) := ⟨⟨Wb, fun _ _ => rfl⟩⟩
              refine wpIn_region_steps (fun w' => ∃ x : KeepW Wb [bP, bY], w' = x.w) [([0, 1, 2], 3), ([], 4), ([], 5)] [] [] (fun ⟨_, _, h⟩ => h) (by kernel_rfl) (by kernel_rfl) (by kernel_rfl) ?_
              rintro _ ⟨x0, rfl⟩
              refine ⟨keep2 (gw_block Wb x0 _ lP) (gw_block Wb x0 _ lY), ?_⟩
              refine wpSeg_cons ?_
              simp only [pickL, List.getElem?_cons_zero, List.getElem?_cons_succ]
              repeat (go_big_quiet_step (fail))
              refine wpQuiet_nil ?_
              go_wp2_with fail
              refine contQ_now ⟨keep2 ((far _ _ _ _ _ nP.1).trans (gw_block Wb x0 _ lP)) ((far _ _ _ _ _ nY.1).trans (gw_block Wb x0 _ lY)), ?_⟩
              refine wpSeg_cons ?_
              simp only [pickL, List.getElem?_cons_zero, List.getElem?_cons_succ]
              repeat (go_big_quiet_step (fail))
              refine wpQuiet_nil ?_
              go_wp2_with fail
              refine contQ_now ⟨keep2 ((far _ _ _ _ _ nP.2.1).trans ((far _ _ _ _ _ nP.1).trans (gw_block Wb x0 _ lP))) ((far _ _ _ _ _ nY.2.1).trans ((far _ _ _ _ _ nY.1).trans (gw_block Wb x0 _ lY))), ?_⟩
              refine wpSeg_cons ?_
              simp only [pickL, List.getElem?_cons_zero, List.getElem?_cons_succ]
              repeat (go_big_quiet_step (fail))
              refine wpQuiet_nil ?_
              go_wp2_with fail
              refine contQ_now ⟨keep2 ((far _ _ _ _ _ nP.2.2).trans ((far _ _ _ _ _ nP.2.1).trans ((far _ _ _ _ _ nP.1).trans (gw_block Wb x0 _ lP)))) ((far _ _ _ _ _ nY.2.2).trans ((far _ _ _ _ _ nY.2.1).trans ((far _ _ _ _ _ nY.1).trans (gw_block Wb x0 _ lY)))), ?_⟩
              refine wpSeg_nil ?_
              simp only [pickL, List.getElem?_cons_zero, List.getElem?_cons_succ]
              repeat (go_big_quiet_step (fail))
              refine wpQuiet_nil ?_
              refine contN_nil ?_
              gi_wp2_with fail
              obtain ⟨hl3, hX3⟩ := KpX.of (j := j) (e := e') HJ.out HG1.out HLB.out (below_gw Wb x0) MS2.out.1 (by have := KA2.out.bq5; have := HBP.out; omega) rfl
              refine ⟨_, _, run_endRound (some .ret) hl3, .inr ⟨HE0.out, rfl, ?_⟩⟩
              have e9 := EJQ.out
              subst e9
              rw [EE.out]
              exact hX3
        case ret2 =>
          rintro rec v W r1 r2 ⟨-, ⟨hqm, K, hJ⟩ | ⟨hqm, hX⟩⟩
          · refine ⟨rec, hJ.loop, by rw [r1]; simp, ?_⟩
            rw [r2]
            obtain ⟨U2, hU⟩ : ∃ U, W.putObj (V2.heap.size + 1) (.loop { rec with state := .exhausted }) = U := ⟨_, rfl⟩
            have hg5 : W.grownBy U2 (some (V2.heap.size + 1)) := by rw [← hU]; exact grownBy_putObj' _ _ _
            simp only [← r2] at *
            rw [hU]
            clear hU
            have same : ∀ (B : Nat) (ob : Obj), W.heap[B]? = some ob → B ≠ V2.heap.size + 1 → U2.heap[B]? = some ob := fun B ob ho hB => (hg5.block B (Array.getElem?_eq_some_iff.1 ho).1 (by simpa using hB)).trans ho
            have a5 := KA2.out.bq5
            have hKB5 := hJ.b.grown hg5 (fun b e => by cases e; have := HBP.out; exact ⟨by omega, by omega, fun hE => by have := MS2.out.1 _ hE; omega⟩)
            have KM2 := Lib.hid (hKB5.mark (same _ _ hJ.dfr (by omega)) (by have := HBP.out; omega) (fun hE => by have := MS2.out.1 _ hE; omega))
            have PM2 := Lib.hid (same _ _ hJ.path (by have := HBP.out; omega))
            have YM2 := Lib.hid (same _ _ hJ.year (by omega))
            have HQM2 := Lib.hid hqm
            clear hg5 same hKB5 hJ hqm a5 r1 r2
            have hP0 : o.pathE y m L k = 0 := by
              unfold Otl.pathE
              rw [Q1.out.2.2, Q2.out.2.2, if_neg (show ¬ qa < m by have := HQM1.out; omega), if_neg (show ¬ qb < m by have := HQM2.out; omega)]
            have HP0 := Lib.hid hP0; clear hP0
            gi_wp2_with fail
            refine ⟨⟨k + 1, V2.heap.size :: V1.heap.size :: ms, by omega, ⟨rfl, rfl, rfl, rfl, rfl, rfl, rfl, rfl, rfl, rfl, rfl, rfl, by go_num⟩, KM2.out, all_succ (P := fun t => o.pathE y m L t = 0) HALL.out HP0.out⟩, ?_⟩
            simp [intOf]; omega
          · refine ⟨_, hX.loop, by simp, ?_⟩
            obtain ⟨W5, hW5⟩ : ∃ W5, W.putObj (V2.heap.size + 1) (.loop { rec with state := .exhausted, pending := some .ret }) = W5 := ⟨_, rfl⟩
            have hg5 : W.grownBy W5 (some (V2.heap.size + 1)) := by rw [← hW5]; exact grownBy_putObj' _ _ _
            have same : ∀ (B : Nat) (ob : Obj), W.heap[B]? = some ob → B ≠ V2.heap.size + 1 → W5.heap[B]? = some ob := fun B ob ho hB => (hg5.block B (Array.getElem?_eq_some_iff.1 ho).1 (by simpa using hB)).trans ho
            show Code.wpIn Fence.wide n _ Code.ret _ _ (W.putObj (V2.heap.size + 1) (.loop { rec with state := .exhausted, pending := some .ret }))
            rw [hW5]
            clear hW5
            have hz4 := (Array.getElem?_eq_some_iff.1 KA2.out.z4).1
            have a5 := KA2.out.bq5
            have x0 := same _ _ hX.r0 (by omega)
            have x1 := same _ _ hX.r1 (by omega)
            have x2 := same _ _ hX.r2 (by omega)
            have xd := same _ _ hX.dfr (by omega)
            have hmk : ∀ E, E ∈ V2.heap.size :: (V1.heap.size :: ms) → W5.heap[E]? = some (.deferred (some [])) := fun E hE => by
              rcases List.mem_cons.1 hE with e | e
              · rw [e]; exact xd
              · exact same _ _ (hX.mks E e) (by have := MS2.out.1 E e; omega)
            have hnd : (V2.heap.size :: (V1.heap.size :: ms)).Nodup := List.nodup_cons.2 ⟨fun hE => by have := MS2.out.1 _ hE; omega, hX.nd⟩
            have hm5 : ∀ E, E ∈ V2.heap.size :: (V1.heap.size :: ms) → w.heap.size + 5 ≤ E := fun E hE => by
              rcases List.mem_cons.1 hE with e | e
              · rw [e]; have := HBP.out; omega
              · exact hX.ms5 E e
            have low5 : Below w.heap.size w W5 := hX.low.grown hg5 hX.low.size (fun k e => by cases e; omega)
            have hPE : o.pathE y m L k = o.errHi y k L qb ∧ o.pathY y m L k = qb ∧ o.pathE y m L k ≠ 0 := by
              have ne := Q2.out.2.1 hqm
              unfold Otl.pathE Otl.pathY
              rw [Q1.out.2.2, Q2.out.2.2, if_neg (show ¬ qa < m by have := HQM1.out; omega), if_neg (show ¬ qa < m by have := HQM1.out; omega), if_pos hqm]
              exact ⟨rfl, rfl, ne⟩
            have HPE := Lib.hid hPE
            have X0 := Lib.hid x0; have X1 := Lib.hid x1; have X2 := Lib.hid x2; have HMK := Lib.hid hmk; have HND := Lib.hid hnd; have HM5 := Lib.hid hm5; have LOW5 := Lib.hid low5
            clear hX same hg5 hPE x0 x1 x2 xd hmk hnd hm5 low5 hz4 a5
            gi_wp2_with fail
            unfold bodyPostM
            show LeavesInM _ _ _ _ _ _ (marks (V2.heap.size :: (V1.heap.size :: ms))) _ _
            refine leaves_marks (V2.heap.size :: (V1.heap.size :: ms)) W5 HMK.out HND.out (fun w' hb => ?_)
            have b0 := box_cell (show w'.heap[w.heap.size + 1 + 1]? = _ from (hb.block _ (fun hE => by have := HM5.out _ hE; omega)).trans X0.out)
            have b1 := box_cell (show w'.heap[w.heap.size + 1 + 1 + 1]? = _ from (hb.block _ (fun hE => by have := HM5.out _ hE; omega)).trans X1.out)
            have b2 := box_cell (show w'.heap[w.heap.size + 1 + 1 + 1 + 1]? = _ from (hb.block _ (fun hE => by have := HM5.out _ hE; omega)).trans X2.out)
            refine ⟨.tuple #[.int .i64 (k : Int), .int .i64 (qb : Int), .int .i64 (o.errHi y k L qb)], by simp [results, Try.results13, go_sem, b0, b1, b2], ?_⟩
            have ek : k = keepN o y m L := upto_unique (by omega) HALL.out (fun _ => HPE.out.2.2)
            have h1 : ¬ argE o y m L = 1 := by have := HARG.out; omega
            refine ⟨?_, hb.below LOW5.out (fun E hE => by have := HM5.out E hE; omega)⟩
            unfold keepsP keepsY keepsE
            rw [if_neg h1, if_neg h1, if_neg h1, ← ek, if_neg (by omega), if_neg (by omega), HPE.out.1, HPE.out.2.1]
      · refine ⟨_, hX.loop, by simp, ?_⟩
        obtain ⟨W5, hW5⟩ : ∃ W5, W.putObj (V1.heap.size + 1) (.loop { rec with state := .exhausted, pending := some .ret }) = W5 := ⟨_, rfl⟩
        have hg5 : W.grownBy W5 (some (V1.heap.size + 1)) := by rw [← hW5]; exact grownBy_putObj' _ _ _
        have same : ∀ (B : Nat) (ob : Obj), W.heap[B]? = some ob → B ≠ V1.heap.size + 1 → W5.heap[B]? = some ob := fun B ob ho hB => (hg5.block B (Array.getElem?_eq_some_iff.1 ho).1 (by simpa using hB)).trans ho
        show Code.wpIn Fence.wide n _ Code.ret _ _ (W.putObj (V1.heap.size + 1) (.loop { rec with state := .exhausted, pending := some .ret }))
        rw [hW5]
        clear hW5
        have hz4 := (Array.getElem?_eq_some_iff.1 KA1.out.z4).1
        have a5 := KA1.out.bq5
        have x0 := same _ _ hX.r0 (by omega)
        have x1 := same _ _ hX.r1 (by omega)
        have x2 := same _ _ hX.r2 (by omega)
        have xd := same _ _ hX.dfr (by omega)
        have hmk : ∀ E, E ∈ V1.heap.size :: ms → W5.heap[E]? = some (.deferred (some [])) := fun E hE => by
          rcases List.mem_cons.1 hE with e | e
          · rw [e]; exact xd
          · exact same _ _ (hX.mks E e) (by have := MS1.out.1 E e; omega)
        have hnd : (V1.heap.size :: ms).Nodup := List.nodup_cons.2 ⟨fun hE => by have := MS1.out.1 _ hE; omega, hX.nd⟩
        have hm5 : ∀ E, E ∈ V1.heap.size :: ms → w.heap.size + 5 ≤ E := fun E hE => by
          rcases List.mem_cons.1 hE with e | e
          · rw [e]; have := HBP.out; omega
          · exact hX.ms5 E e
        have low5 : Below w.heap.size w W5 := hX.low.grown hg5 hX.low.size (fun k e => by cases e; omega)
        have hPE : o.pathE y m L k = o.errLo y k L qa ∧ o.pathY y m L k = qa ∧ o.pathE y m L k ≠ 0 := by
          have ne := Q1.out.2.1 hqm
          unfold Otl.pathE Otl.pathY
          rw [Q1.out.2.2, if_pos hqm, if_pos hqm]
          exact ⟨rfl, rfl, ne⟩
        have HPE := Lib.hid hPE
        have X0 := Lib.hid x0; have X1 := Lib.hid x1; have X2 := Lib.hid x2; have HMK := Lib.hid hmk; have HND := Lib.hid hnd; have HM5 := Lib.hid hm5; have LOW5 := Lib.hid low5
        clear hX same hg5 hPE x0 x1 x2 xd hmk hnd hm5 low5 hz4 a5
        gi_wp2_with fail
        unfold bodyPostM
        show LeavesInM _ _ _ _ _ _ (marks (V1.heap.size :: ms)) _ _
        refine leaves_marks (V1.heap.size :: ms) W5 HMK.out HND.out (fun w' hb => ?_)
        have b0 := box_cell (show w'.heap[w.heap.size + 1 + 1]? = _ from (hb.block _ (fun hE => by have := HM5.out _ hE; omega)).trans X0.out)
        have b1 := box_cell (show w'.heap[w.heap.size + 1 + 1 + 1]? = _ from (hb.block _ (fun hE => by have := HM5.out _ hE; omega)).trans X1.out)
        have b2 := box_cell (show w'.heap[w.heap.size + 1 + 1 + 1 + 1]? = _ from (hb.block _ (fun hE => by have := HM5.out _ hE; omega)).trans X2.out)
        refine ⟨.tuple #[.int .i64 (k : Int), .int .i64 (qa : Int), .int .i64 (o.errLo y k L qa)], by simp [results, Try.results13, go_sem, b0, b1, b2], ?_⟩
        have ek : k = keepN o y m L := upto_unique (by omega) HALL.out (fun _ => HPE.out.2.2)
        have h1 : ¬ argE o y m L = 1 := by have := HARG.out; omega
        refine ⟨?_, hb.below LOW5.out (fun E hE => by have := HM5.out E hE; omega)⟩
        unfold keepsP keepsY keepsE
        rw [if_neg h1, if_neg h1, if_neg h1, ← ek, if_neg (by omega), if_neg (by omega), HPE.out.1, HPE.out.2.1]
  · have hkn : k = o.nP := by omega
    have go0 : wr.cell? ⟨w.heap.size, 0, none⟩ = some (.slice o.aS o.nS o.cS) := cell_of_block KB1.out.z0 0 (by simp)
    have go1 : wr.cell? ⟨w.heap.size, 1, none⟩ = some (.int .i64 o.kl) := cell_of_block KB1.out.z0 1 (by simp)
    have go2 : wr.cell? ⟨w.heap.size, 2, none⟩ = some (.int .i64 o.kh) := cell_of_block KB1.out.z0 2 (by simp)
    have go3 : wr.cell? ⟨w.heap.size, 3, none⟩ = some (.slice o.aA o.nA o.cA) := cell_of_block KB1.out.z0 3 (by simp)
    have go4 : wr.cell? ⟨w.heap.size, 4, none⟩ = some (.slice o.aP o.nP o.cP) := cell_of_block KB1.out.z0 4 (by simp)
    have gy0 : wr.cell? ⟨w.heap.size + 1, 0, none⟩ = some (.slice y.aR y.nR y.cR) := cell_of_block KB1.out.z1 0 (by simp)
    have gy1 : wr.cell? ⟨w.heap.size + 1, 1, none⟩ = some (.slice y.aM y.nM y.cM) := cell_of_block KB1.out.z1 1 (by simp)
    have gy2 : wr.cell? ⟨w.heap.size + 1, 2, none⟩ = some (.int .i64 y.lot) := cell_of_block KB1.out.z1 2 (by simp)
    have gy3 : wr.cell? ⟨w.heap.size + 1, 3, none⟩ = some (.int .i64 y.room) := cell_of_block KB1.out.z1 3 (by simp)
    have glo := (Array.getElem?_eq_some_iff.1 KB1.out.z0).1
    have gly := (Array.getElem?_eq_some_iff.1 KB1.out.z1).1
    have hz4 := (Array.getElem?_eq_some_iff.1 KB1.out.z4).1
    have v2 := box_cell KB1.out.z2
    have v3 := box_cell KB1.out.z3
    have v4 := box_cell KB1.out.z4
    have f2 := frozen_of_block KB1.out.z2 0
    have f3 := frozen_of_block KB1.out.z3 0
    have f4 := frozen_of_block KB1.out.z4 0
    have l2 := (Array.getElem?_eq_some_iff.1 KB1.out.z2).1
    have l3 := (Array.getElem?_eq_some_iff.1 KB1.out.z3).1
    have l4 := (Array.getElem?_eq_some_iff.1 KB1.out.z4).1
    have zk : ¬ (k : Int) < (o.nP : Int) := by omega
    have HKN := Lib.hid hkn; clear hkn
    gi_wp2_with fail
    obtain ⟨W5, hW5⟩ : ∃ W5, ((wr.setCell ⟨w.heap.size + 1 + 1, 0, none⟩ (.int .i64 (o.nP : Int))).setCell ⟨w.heap.size + 1 + 1 + 1, 0, none⟩ (.int .i64 (m : Int))).setCell ⟨w.heap.size + 1 + 1 + 1 + 1, 0, none⟩ (.int .i64 0) = W5 := ⟨_, rfl⟩
    have far : ∀ (W : World) (b k : Nat) (v : Value) (B : Nat), B ≠ b → (W.setCell ⟨b, k, none⟩ v).heap[B]? = W.heap[B]? := fun W b k v B h => Below.heap_setCell W ⟨b, k, none⟩ v B h
    have x0 : W5.heap[w.heap.size + 1 + 1]? = some (.cells #[.int .i64 (o.nP : Int)] 3 (0, 0)) := by rw [← hW5]; exact (far _ _ _ _ _ (by omega)).trans ((far _ _ _ _ _ (by omega)).trans (block_set 0 _ KB1.out.z2))
    have x1 : W5.heap[w.heap.size + 1 + 1 + 1]? = some (.cells #[.int .i64 (m : Int)] 3 (0, 0)) := by rw [← hW5]; exact (far _ _ _ _ _ (by omega)).trans (block_set 0 _ ((far _ _ _ _ _ (by omega)).trans KB1.out.z3))
    have x2 : W5.heap[w.heap.size + 1 + 1 + 1 + 1]? = some (.cells #[.int .i64 0] 33 (0, 0)) := by rw [← hW5]; exact block_set 0 _ ((far _ _ _ _ _ (by omega)).trans ((far _ _ _ _ _ (by omega)).trans KB1.out.z4))
    have hmk : ∀ E, E ∈ ms → W5.heap[E]? = some (.deferred (some [])) := fun E hE => by
      have := KB1.out.ms5 E hE
      rw [← hW5]; exact (far _ _ _ _ _ (by omega)).trans ((far _ _ _ _ _ (by omega)).trans ((far _ _ _ _ _ (by omega)).trans (KB1.out.mks E hE)))
    have low5 : Below w.heap.size w W5 := by rw [← hW5]; exact ((KB1.out.low.setCell (p := ⟨w.heap.size + 1 + 1, 0, none⟩) (by simp <;> omega) _).setCell (p := ⟨w.heap.size + 1 + 1 + 1, 0, none⟩) (by simp <;> omega) _).setCell (p := ⟨w.heap.size + 1 + 1 + 1 + 1, 0, none⟩) (by simp <;> omega) _
    first | rw [hW5] | skip
    have e4 : (wr.setCell ⟨w.heap.size + 1 + 1 + 1 + 1, 0, none⟩ (.int .i64 0)) = wr := setCell_self v4
    unfold bodyPostM
    show LeavesInM _ _ _ _ _ _ (marks ms) _ _
    refine leaves_marks ms W5 hmk KB1.out.nd (fun w' hb => ?_)
    have b0 := box_cell (show w'.heap[w.heap.size + 1 + 1]? = _ from (hb.block _ (fun hE => by have := KB1.out.ms5 _ hE; omega)).trans x0)
    have b1 := box_cell (show w'.heap[w.heap.size + 1 + 1 + 1]? = _ from (hb.block _ (fun hE => by have := KB1.out.ms5 _ hE; omega)).trans x1)
    have b2 := box_cell (show w'.heap[w.heap.size + 1 + 1 + 1 + 1]? = _ from (hb.block _ (fun hE => by have := KB1.out.ms5 _ hE; omega)).trans x2)
    refine ⟨.tuple #[.int .i64 (o.nP : Int), .int .i64 (m : Int), .int .i64 0], by simp [results, Try.results13, go_sem, b0, b1, b2], ?_⟩
    have ek : o.nP = keepN o y m L := upto_unique (Nat.le_refl _) (fun t ht => HALL.out t (by have := HKN.out; omega)) (fun h => by omega)
    have h1 : ¬ argE o y m L = 1 := by have := HARG.out; omega
    refine ⟨?_, hb.below low5 (fun E hE => by have := KB1.out.ms5 E hE; omega)⟩
    unfold keepsP keepsY keepsE
    rw [if_neg h1, if_neg h1, if_neg h1, ← ek, if_pos rfl, if_pos rfl]

theorem Keeps_any (o : Otl) (y : Lyg) (aL : Option Addr) (m cL : Nat) (L : Nat → Int) (w : World) (hO : o.In w) (hfo : o.Fits) (hY : y.In w) (hfy : y.Fits) (hL : IntsAt w aL m L) (hm : m ≤ 9223372036854775807) : Calls Try.prog 13 #[o.val, y.val, .slice aL m cL] w (KeepsEnd o y m L w) := by
  rcases argE_cases o y m L with h | h
  · exact callsIn_wide.1 (Keeps_in 4 o y aL m cL L w hO hfo hY hfy hL hm h)
  · refine (Keeps_arg o y aL m cL L w hO hfo hY hfy hL hm h).mono fun e w' ⟨he, hb⟩ => ⟨?_, hb⟩
    unfold keepsP keepsY keepsE
    rw [if_pos h, if_pos h, if_pos h]
    exact he
end Go.Proofs.Ytdcpgjepgajioaa
