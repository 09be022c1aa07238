/- Plain words of the still: tests and numbers as functions of integers. Plain words: slices of numbers and of spans in memory; curves. Plain words: the place of a number in a rising list; lines through points. Own laws: a class of worlds 'w grown by new blocks and draws'; regions that draw their order walked once in that class, with a tail of stores in forced order. Plain words: a curve in memory; the vapour of strengths. Plain words: a still in memory; what is drawn. Plain words: blocks that were laid one after another; cells of a block that is known whole. Plain words: runs of a still. Plain words: what stands between two rounds of a run. Own laws: a deferred function's region that draws its order and recovers. Own laws: a range over a function whose iterator may panic, in the wide fence. Plain words: the five stores of Run's results. Own law: append of one owned row to another one, in a guarded operation too. No conditions beyond each theorem's own. -/
import Derived.Test.YtfefmgadfklgmaaAa
import Derived.Test.YtfefmgadfklgmaaAb
import Derived.Test.YtfefmgadfklgmaaAc
import Derived.Test.YtfefmgadfklgmaaAe
import Derived.Test.YtfefmgadfklgmaaAf
import Derived.Test.YtfefmgadfklgmaaAg
import Derived.Test.YtfefmgadfklgmaaAh
import Derived.Test.YtfefmgadfklgmaaAi
import Derived.Test.YtfefmgadfklgmaaAj
import Derived.Test.YtfefmgadfklgmaaAk
import Derived.Test.YtfefmgadfklgmaaAl
import Derived.Test.YtfefmgadfklgmaaAm
import Derived.Test.YtfefmgadfklgmaaAn
import Derived.Test.YtfefmgadfklgmaaAo
import Derived.Test.YtfefmgadfklgmaaAp
import Derived.Test.YtfefmgadfklgmaaAq
import Derived.Test.YtfefmgadfklgmaaAr
import Derived.Test.YtfefmgadfklgmaaAs
import Derived.WalkKit
import Derived.WalkSpells
import Derived.WalkLawsBesides
import Derived.Deep.QuietTactic
import Derived.BigQuiet
import Derived.StillTail
import Derived.RangeFuncBox
import Derived.RangeFuncNested
import Derived.Recover
import Derived.Orders
import Derived.RecoverIn
import Derived.Laws.AppendOwnNone
import Derived.Deep.RegionHeld
set_option linter.unusedVariables false
set_option linter.unusedSimpArgs false
set_option linter.unusedSectionVars false
set_option linter.constructorNameAsVariable false

namespace Go.Proofs.Ytfefmgadfklgmaa.L4
open Go.RowKit

def headB (n m : Nat) (L A : Nat → Int) : Bool := inB n 2 32 && (decide (m = n) && (decide (L 0 = 0) && (decide (L (n - 1) = 10000) && decide (A 0 = 0))))
def stepB (L A B : Nat → Int) (i : Nat) : Bool := decide (L i ≤ L (i - 1)) || (decide (A i < A (i - 1)) || decide (B i < B (i - 1)))
def okB (L A B : Nat → Int) (i : Nat) : Bool := spanB (A i) (B i) (L i) 10000 && (decide (i = 0) || !stepB L A B i)
def curveB (n m : Nat) (L A B : Nat → Int) : Bool := headB n m L A && (List.range n).all (okB L A B)

theorem curveB_all {n m : Nat} {L A B : Nat → Int} (h : headB n m L A = true) (k : ∀ i, i < n → okB L A B i = true) : curveB n m L A B = true := by
  simp only [curveB, h, Bool.true_and, List.all_eq_true, List.mem_range]; exact k
theorem curveB_not {n m : Nat} {L A B : Nat → Int} {i : Nat} (hi : i < n) (k : okB L A B i = false) : curveB n m L A B = false := by
  have : (List.range n).all (okB L A B) = false := by
    rw [List.all_eq_false]; exact ⟨i, List.mem_range.2 hi, by simp [k]⟩
  simp [curveB, this]
theorem okB_span {L A B : Nat → Int} {i : Nat} (h : spanB (A i) (B i) (L i) 10000 = false) : okB L A B i = false := by simp [okB, h]
theorem okB_step {L A B : Nat → Int} {i : Nat} (hi : 0 < i) (h : stepB L A B i = true) : okB L A B i = false := by
  have : ¬ i = 0 := by omega
  simp [okB, h, this]
theorem okB_zero {L A B : Nat → Int} {i : Nat} (hi : i = 0) (h : spanB (A i) (B i) (L i) 10000 = true) : okB L A B i = true := by subst hi; simp [okB, h]
theorem okB_good {L A B : Nat → Int} {i : Nat} (h : spanB (A i) (B i) (L i) 10000 = true) (h2 : stepB L A B i = false) : okB L A B i = true := by simp [okB, h, h2]
end Go.Proofs.Ytfefmgadfklgmaa.L4

namespace Go.Proofs.Ytfefmgadfklgmaa.L4

/-- a valid curve -/
structure Good (n : Nat) (L A B : Nat → Int) : Prop where
  two : 2 ≤ n
  most : n ≤ 32
  zero : L 0 = 0
  last : L (n - 1) = 10000
  low : A 0 = 0
  inc : ∀ i, i + 1 < n → L i < L (i + 1)
  incA : ∀ i, i + 1 < n → A i ≤ A (i + 1)
  incB : ∀ i, i + 1 < n → B i ≤ B (i + 1)
  span : ∀ i, i < n → L i ≤ A i ∧ A i ≤ B i ∧ B i ≤ 10000

theorem good_of {n m : Nat} {L A B : Nat → Int} (h : curveB n m L A B = true) : m = n ∧ Good n L A B := by
  simp only [curveB, headB, Bool.and_eq_true, decide_eq_true_eq, List.all_eq_true, List.mem_range] at h
  obtain ⟨⟨h1, h2, h3, h4, h5⟩, h6⟩ := h
  have hr := inB_t.1 h1
  have key : ∀ i, i < n → spanB (A i) (B i) (L i) 10000 = true ∧ (i = 0 ∨ (L (i - 1) < L i ∧ A (i - 1) ≤ A i ∧ B (i - 1) ≤ B i)) := fun i hi => by
    have := h6 i hi
    simp only [okB, stepB, Bool.and_eq_true, Bool.or_eq_true, decide_eq_true_eq, Bool.not_eq_true', Bool.or_eq_false_iff, decide_eq_false_iff_not] at this
    refine ⟨this.1, this.2.imp id fun h => by omega⟩
  refine ⟨h2, by omega, by omega, h3, h4, h5, fun i hi => ?_, fun i hi => ?_, fun i hi => ?_, fun i hi => spanB_t.1 (key i hi).1⟩
  all_goals
    have := (key (i + 1) hi).2
    simp only [Nat.add_sub_cancel] at this
    omega

theorem Good.mono {n : Nat} {L A B : Nat → Int} (g : Good n L A B) : ∀ s t, s ≤ t → t < n → L s ≤ L t := mono_of fun i hi => Int.le_of_lt (g.inc i hi)
theorem Good.range {n : Nat} {L A B : Nat → Int} (g : Good n L A B) (i : Nat) (hi : i < n) : 0 ≤ L i ∧ L i ≤ 10000 ∧ 0 ≤ A i ∧ A i ≤ 10000 ∧ 0 ≤ B i ∧ B i ≤ 10000 := by
  have h1 := g.mono 0 i (Nat.zero_le _) hi
  have h2 := g.mono i (n - 1) (by omega) (by omega)
  have h3 := g.span i hi
  rw [g.zero] at h1; rw [g.last] at h2
  omega

/-- the first one of the two points between which x lies -/
def segI (L : Nat → Int) (n : Nat) (x : Int) : Nat := min (if foundB L x n then lb L x n else lb L x n - 1) (n - 2)
def lineDen (L : Nat → Int) (n : Nat) (x : Int) : Int := L (segI L n x + 1) - L (segI L n x)
def lineNum (L E : Nat → Int) (n : Nat) (x : Int) : Int :=
  E (segI L n x) * lineDen L n x + (E (segI L n x + 1) - E (segI L n x)) * (x - L (segI L n x))

theorem Good.found_le {n : Nat} {L A B : Nat → Int} (_ : Good n L A B) {x : Int} (h : foundB L x n = true) : lb L x n < n ∧ L (lb L x n) = x := by simpa [foundB] using h
theorem Good.lost {n : Nat} {L A B : Nat → Int} (g : Good n L A B) {x : Int} (h0 : 0 ≤ x) (h1 : x ≤ 10000) (h : foundB L x n = false) : 1 ≤ lb L x n ∧ lb L x n ≤ n - 1 ∧ L (lb L x n - 1) < x ∧ x < L (lb L x n) := by
  have a := lb_le L x n
  have t := g.two
  have hl : lb L x n < n := by
    rcases Nat.lt_or_ge (lb L x n) n with h' | h'
    · exact h'
    · have := lb_lt L x n (n - 1) (by omega)
      rw [g.last] at this; omega
  have hs := lb_stop L x n hl
  have hne : ¬ L (lb L x n) = x := by intro e; simp [foundB, hl, e] at h
  have h1' : 1 ≤ lb L x n := by
    rcases Nat.eq_zero_or_pos (lb L x n) with e | e
    · rw [e, g.zero] at hs hne; omega
    · exact e
  exact ⟨h1', by omega, lb_lt L x n _ (by omega), by omega⟩

/-- the point's index, and that x lies there -/
theorem Good.seg {n : Nat} {L A B : Nat → Int} (g : Good n L A B) {x : Int} (h0 : 0 ≤ x) (h1 : x ≤ 10000) : segI L n x + 1 < n ∧ L (segI L n x) ≤ x ∧ x ≤ L (segI L n x + 1) := by
  have t := g.two
  cases h : foundB L x n with
  | true =>
    obtain ⟨a, b⟩ := g.found_le h
    unfold segI; simp only [h, if_true]
    by_cases c : lb L x n ≤ n - 2
    · rw [Nat.min_eq_left c]
      have := g.mono (lb L x n) (lb L x n + 1) (by omega) (by omega)
      exact ⟨by omega, by omega, by omega⟩
    · rw [Nat.min_eq_right (by omega)]
      have e : lb L x n = n - 2 + 1 := by omega
      have := g.mono (n - 2) (n - 2 + 1) (by omega) (by omega)
      rw [e] at b
      exact ⟨by omega, by omega, by omega⟩
  | false =>
    obtain ⟨a, b, c, d⟩ := g.lost h0 h1 h
    unfold segI
    rw [if_neg (by rw [h]; simp), Nat.min_eq_left (by omega)]
    have e : lb L x n - 1 + 1 = lb L x n := by omega
    rw [e]
    exact ⟨by omega, by omega, by omega⟩
end Go.Proofs.Ytfefmgadfklgmaa.L4

namespace Go
open Go.RowKit

section
variable {P : Program} (w : World)
end

section
variable {P : Program} {ops : Array Oper} {md : Region.Mode} {C : World → Prop}

end
end Go

namespace Go.Proofs.Ytfefmgadfklgmaa.L4
open Go.RowKit

/-- the points of a curve lie in memory -/
structure Pts (w : World) (b off bv offv n : Nat) (L A B : Nat → Int) : Prop where
  lb : b < w.heap.size
  vb : bv < w.heap.size
  ls : ∀ i, i < n → w.cell? ⟨b, off + i, none⟩ = some (.int .i64 (L i))
  vs : ∀ i, i < n → w.cell? ⟨bv, offv + i * 2, none⟩ = some (.int .i64 (A i)) ∧ w.cell? ⟨bv, offv + i * 2 + 1, none⟩ = some (.int .i64 (B i))

theorem Pts.below {w w' : World} {b off bv offv n : Nat} {L A B : Nat → Int} (h : Pts w b off bv offv n L A B) (hb : Below w.heap.size w w') : Pts w' b off bv offv n L A B :=
  ⟨Nat.lt_of_lt_of_le h.lb hb.size, Nat.lt_of_lt_of_le h.vb hb.size, fun i hi => (hb.cell (p := ⟨b, off + i, none⟩) h.lb).trans (h.ls i hi),
    fun i hi => ⟨(hb.cell (p := ⟨bv, offv + i * 2, none⟩) h.vb).trans (h.vs i hi).1, (hb.cell (p := ⟨bv, offv + i * 2 + 1, none⟩) h.vb).trans (h.vs i hi).2⟩⟩

/-- a curve's box -/
structure CurveAt (w : World) (bc b off bv offv n cL cV : Nat) (L A B : Nat → Int) : Prop where
  cb : bc < w.heap.size
  c0 : w.cell? ⟨bc, 0, none⟩ = some (.slice (some ⟨b, off, none⟩) n cL)
  c1 : w.cell? ⟨bc, 1, none⟩ = some (.slice (some ⟨bv, offv, none⟩) n cV)
  pts : Pts w b off bv offv n L A B

theorem CurveAt.below {w w' : World} {bc b off bv offv n cL cV : Nat} {L A B : Nat → Int} (h : CurveAt w bc b off bv offv n cL cV L A B) (hb : Below w.heap.size w w') : CurveAt w' bc b off bv offv n cL cV L A B :=
  ⟨Nat.lt_of_lt_of_le h.cb hb.size, (hb.cell (p := ⟨bc, 0, none⟩) h.cb).trans h.c0, (hb.cell (p := ⟨bc, 1, none⟩) h.cb).trans h.c1, h.pts.below hb⟩
theorem CurveAt.gw {w : World} {bc b off bv offv n cL cV : Nat} {L A B : Nat → Int} (h : CurveAt w bc b off bv offv n cL cV L A B) (x : Grew) : CurveAt (Go.gw w x) bc b off bv offv n cL cV L A B := h.below (below_gw w x)

theorem Good.den {n : Nat} {L A B : Nat → Int} (g : Good n L A B) {x : Int} (h0 : 0 ≤ x) (h1 : x ≤ 10000) : 1 ≤ lineDen L n x ∧ lineDen L n x ≤ 10000 := by
  obtain ⟨s1, s2, s3⟩ := g.seg h0 h1
  have i1 := g.inc _ s1
  have r1 := g.range _ s1
  have r0 := g.range (segI L n x) (by omega)
  unfold lineDen; omega

/-- a line's value times its denominator, as a mean of two ends -/
theorem line_mean {e f d u : Int} : e * d + (f - e) * u = e * (d - u) + f * u := by
  rw [Int.mul_sub, Int.sub_mul]; omega

theorem lineNum_nonneg {n : Nat} {L A B E : Nat → Int} (g : Good n L A B) (hE : ∀ i, i < n → 0 ≤ E i ∧ E i ≤ 10000) {x : Int} (h0 : 0 ≤ x) (h1 : x ≤ 10000) : 0 ≤ lineNum L E n x ∧ lineNum L E n x ≤ 10000 * lineDen L n x := by
  obtain ⟨s1, s2, s3⟩ := g.seg h0 h1
  have e1 := hE _ s1
  have e0 := hE (segI L n x) (by omega)
  unfold lineNum
  rw [line_mean]
  have hd : 0 ≤ lineDen L n x - (x - L (segI L n x)) := by unfold lineDen; omega
  have hu : 0 ≤ x - L (segI L n x) := by omega
  have a1 := Int.mul_nonneg e0.1 hd
  have a2 := Int.mul_nonneg e1.1 hu
  have b1 : E (segI L n x) * (lineDen L n x - (x - L (segI L n x))) ≤ 10000 * (lineDen L n x - (x - L (segI L n x))) := Int.mul_le_mul_of_nonneg_right e0.2 hd
  have b2 : E (segI L n x + 1) * (x - L (segI L n x)) ≤ 10000 * (x - L (segI L n x)) := Int.mul_le_mul_of_nonneg_right e1.2 hu
  omega

def vapLo (L A : Nat → Int) (n : Nat) (x : Int) : Int := lineNum L A n x / lineDen L n x
def vapHi (L B : Nat → Int) (n : Nat) (x : Int) : Int := (lineNum L B n x + lineDen L n x - 1) / lineDen L n x

theorem Good.vapLo_range {n : Nat} {L A B : Nat → Int} (g : Good n L A B) {x : Int} (h0 : 0 ≤ x) (h1 : x ≤ 10000) : 0 ≤ vapLo L A n x ∧ vapLo L A n x ≤ 10000 := by
  have d := g.den h0 h1
  have m := lineNum_nonneg g (fun i hi => ⟨(g.range i hi).2.2.1, (g.range i hi).2.2.2.1⟩) h0 h1 (E := A)
  unfold vapLo
  exact ⟨Int.ediv_nonneg m.1 (by omega), by have := Int.ediv_le_ediv (show 0 < lineDen L n x by omega) m.2; rwa [Int.mul_ediv_cancel _ (by omega)] at this⟩
theorem Good.vapHi_range {n : Nat} {L A B : Nat → Int} (g : Good n L A B) {x : Int} (h0 : 0 ≤ x) (h1 : x ≤ 10000) : 0 ≤ vapHi L B n x ∧ vapHi L B n x ≤ 10000 := by
  have d := g.den h0 h1
  have m := lineNum_nonneg g (fun i hi => ⟨(g.range i hi).2.2.2.2.1, (g.range i hi).2.2.2.2.2⟩) h0 h1 (E := B)
  unfold vapHi
  refine ⟨Int.ediv_nonneg (by omega) (by omega), ?_⟩
  have h2 : lineNum L B n x + lineDen L n x - 1 < 10001 * lineDen L n x := by omega
  have := Int.ediv_lt_of_lt_mul (by omega) h2
  omega
end Go.Proofs.Ytfefmgadfklgmaa.L4

namespace Go.Proofs.Ytfefmgadfklgmaa.L4
open Go.RowKit

/-- a still's block -/
def StillBox (w : World) (bs : Nat) (v lo hi : Int) (bc : Nat) : Prop :=
  w.heap[bs]? = some (.cells #[.int .i64 v, .int .i64 lo, .int .i64 hi, .pointer (some ⟨bc, 0, none⟩)] 101 (0, 0))

section
variable {w w' : World} {bs bc : Nat} {v lo hi : Int}
theorem StillBox.lt (h : StillBox w bs v lo hi bc) : bs < w.heap.size := (Array.getElem?_eq_some_iff.1 h).1
theorem StillBox.c0 (h : StillBox w bs v lo hi bc) : w.cell? ⟨bs, 0, none⟩ = some (.int .i64 v) := by simp [World.cell?, show w.heap[bs]? = _ from h]
theorem StillBox.c1 (h : StillBox w bs v lo hi bc) : w.cell? ⟨bs, 1, none⟩ = some (.int .i64 lo) := by simp [World.cell?, show w.heap[bs]? = _ from h]
theorem StillBox.c2 (h : StillBox w bs v lo hi bc) : w.cell? ⟨bs, 2, none⟩ = some (.int .i64 hi) := by simp [World.cell?, show w.heap[bs]? = _ from h]
theorem StillBox.c3 (h : StillBox w bs v lo hi bc) : w.cell? ⟨bs, 3, none⟩ = some (.pointer (some ⟨bc, 0, none⟩)) := by simp [World.cell?, show w.heap[bs]? = _ from h]
theorem StillBox.fr (h : StillBox w bs v lo hi bc) (k : Nat) : w.frozen? ⟨bs, k, none⟩ = false := by simp [World.frozen?, show w.heap[bs]? = _ from h]
theorem StillBox.below (h : StillBox w bs v lo hi bc) (hb : Below w.heap.size w w') : StillBox w' bs v lo hi bc := (hb.block bs h.lt).trans h
theorem StillBox.set (h : StillBox w bs v lo hi bc) (v' lo' hi' : Int) :
    StillBox (((w.setCell ⟨bs, 0, none⟩ (.int .i64 v')).setCell ⟨bs, 1, none⟩ (.int .i64 lo')).setCell ⟨bs, 2, none⟩ (.int .i64 hi')) bs v' lo' hi' bc :=
  block_set 2 _ (block_set 1 _ (block_set 0 _ h))
end

end Go.Proofs.Ytfefmgadfklgmaa.L4

namespace Go.Proofs.Ytfefmgadfklgmaa.L4
open Go.RowKit

theorem five_blocks (w : World) (o1 o2 o3 o4 o5 : Obj) :
    (((((w.alloc o1).alloc o2).alloc o3).alloc o4).alloc o5).heap.size = w.heap.size + 5 ∧
    (((((w.alloc o1).alloc o2).alloc o3).alloc o4).alloc o5).heap[w.heap.size]? = some o1 ∧
    (((((w.alloc o1).alloc o2).alloc o3).alloc o4).alloc o5).heap[w.heap.size + 1]? = some o2 ∧
    (((((w.alloc o1).alloc o2).alloc o3).alloc o4).alloc o5).heap[w.heap.size + 2]? = some o3 ∧
    (((((w.alloc o1).alloc o2).alloc o3).alloc o4).alloc o5).heap[w.heap.size + 3]? = some o4 ∧
    (((((w.alloc o1).alloc o2).alloc o3).alloc o4).alloc o5).heap[w.heap.size + 4]? = some o5 := by
  have e : (((((w.alloc o1).alloc o2).alloc o3).alloc o4).alloc o5).heap = ((((w.heap.push o1).push o2).push o3).push o4).push o5 := rfl
  rw [e]
  have pn : ∀ (h : Array Obj) (o : Obj) (k : Nat), k ≠ h.size → (h.push o)[k]? = h[k]? := fun h o k hk => by rw [Array.getElem?_push, if_neg hk]
  have pe : ∀ (h : Array Obj) (o : Obj) (k : Nat), k = h.size → (h.push o)[k]? = some o := fun h o k hk => by rw [Array.getElem?_push, if_pos hk]
  have s1 : (w.heap.push o1).size = w.heap.size + 1 := by simp
  have s2 : ((w.heap.push o1).push o2).size = w.heap.size + 2 := by simp
  have s3 : (((w.heap.push o1).push o2).push o3).size = w.heap.size + 3 := by simp
  have s4 : ((((w.heap.push o1).push o2).push o3).push o4).size = w.heap.size + 4 := by simp
  refine ⟨by simp, ?_, ?_, ?_, ?_, ?_⟩
  · rw [pn _ _ _ (by omega), pn _ _ _ (by omega), pn _ _ _ (by omega), pn _ _ _ (by omega), pe _ _ _ rfl]
  · rw [pn _ _ _ (by omega), pn _ _ _ (by omega), pn _ _ _ (by omega), pe _ _ _ (by omega)]
  · rw [pn _ _ _ (by omega), pn _ _ _ (by omega), pe _ _ _ (by omega)]
  · rw [pn _ _ _ (by omega), pe _ _ _ (by omega)]
  · rw [pe _ _ _ (by omega)]

end Go.Proofs.Ytfefmgadfklgmaa.L4

namespace Go.Proofs.Ytfefmgadfklgmaa.L4
open Go.RowKit

structure Crv where
  n : Nat
  L : Nat → Int
  A : Nat → Int
  B : Nat → Int
structure Pot3 where
  v : Int
  lo : Int
  hi : Int
structure Dr3 where
  d : Int
  lo : Int
  hi : Int

def Pot3.ok (p : Pot3) : Prop := 0 ≤ p.lo ∧ p.lo ≤ p.hi ∧ p.hi ≤ p.v ∧ p.v ≤ 1073741824
def Crv.most (c : Crv) (p : Pot3) (d : Int) : Int := min p.hi (upI (d * vapHi c.L c.B c.n (upI (p.hi * 10000) p.v)) 10000)
def Crv.stays (c : Crv) (p : Pot3) (d : Int) : Int := max 0 (p.lo - c.most p d)
def Crv.weak (c : Crv) (p : Pot3) (d : Int) : Int := min (p.lo * 10000 / p.v) (if p.v - d = 0 then 0 else c.stays p d * 10000 / (p.v - d))
def Crv.least (c : Crv) (p : Pot3) (d : Int) : Int := max (p.lo - (p.v - d)) (d * vapLo c.L c.A c.n (c.weak p d) / 10000)
def Crv.high (c : Crv) (p : Pot3) (d : Int) : Int := min (p.hi - c.least p d) (min (p.v - d) (upI (p.hi * (p.v - d)) p.v))
def Crv.out (c : Crv) (p : Pot3) (d : Int) : Dr3 := ⟨d, c.least p d, c.most p d⟩
def Crv.next (c : Crv) (p : Pot3) (d : Int) : Pot3 := ⟨p.v - d, c.stays p d, c.high p d⟩
/-- why an amount cannot be drawn; 0: it can -/
def errD (p : Pot3) (d : Int) : Int := if inB d 1 1073741824 then (if d ≤ p.v then 0 else 10) else 2

/-- the pot before amount j -/
def Crv.potAt (c : Crv) (p : Pot3) (M : Nat → Int) : Nat → Pot3
  | 0 => p
  | j + 1 => c.next (c.potAt p M j) (M j)
def Crv.outAt (c : Crv) (p : Pot3) (M : Nat → Int) (j : Nat) : Dr3 := c.out (c.potAt p M j) (M j)
def Crv.errAt (c : Crv) (p : Pot3) (M : Nat → Int) (j : Nat) : Int := errD (c.potAt p M j) (M j)

def Dr3.val (x : Dr3) : Value := .agg #[.int .i64 x.d, .int .i64 x.lo, .int .i64 x.hi]

theorem errD_zero {p : Pot3} {d : Int} (h : errD p d = 0) : inB d 1 1073741824 = true ∧ d ≤ p.v := by
  unfold errD at h
  split at h
  · rename_i h1
    split at h
    · rename_i h2; exact ⟨h1, h2⟩
    · omega
  · omega
theorem errD_cases (p : Pot3) (d : Int) : errD p d = 0 ∨ (errD p d = 2 ∧ inB d 1 1073741824 = false) ∨ (errD p d = 10 ∧ inB d 1 1073741824 = true ∧ p.v < d) := by
  unfold errD
  split
  · rename_i h1
    split
    · exact .inl rfl
    · rename_i h2; exact .inr (.inr ⟨rfl, h1, by omega⟩)
  · rename_i h1; exact .inr (.inl ⟨rfl, by simpa using h1⟩)

end Go.Proofs.Ytfefmgadfklgmaa.L4

namespace Go.Proofs.Ytfefmgadfklgmaa.L4
open Go.RowKit

def Dr3.cells (x : Dr3) : List Value := [.int .i64 x.d, .int .i64 x.lo, .int .i64 x.hi]
def Crv.outs (c : Crv) (p : Pot3) (M : Nat → Int) (j : Nat) : List Value := (List.range j).flatMap fun i => (c.outAt p M i).cells
theorem Crv.outs_succ (c : Crv) (p : Pot3) (M : Nat → Int) (j : Nat) : c.outs p M (j + 1) = c.outs p M j ++ (c.outAt p M j).cells := by
  simp [Crv.outs, List.range_succ]
theorem Crv.outs_length (c : Crv) (p : Pot3) (M : Nat → Int) : ∀ j, (c.outs p M j).length = j * 3
  | 0 => rfl
  | j + 1 => by rw [c.outs_succ, List.length_append, c.outs_length p M j]; simp [Dr3.cells]; omega

/-- between two rounds: N: the heap's size when the call began; S: the still's block; D: the block for deferred calls -/
structure Between (c : Crv) (p : Pot3) (M : Nat → Int) (w : World) (cb ab pb : Array Value) (S D : Nat) (rec : Loop) (j : Nat) (W : World) : Prop where
  row : ∃ vl, Boxed W (w.heap.size + 2) 59 vl ∧ W.ownsRow w.heap.size 63 3 vl j (c.outs p M j) ∧ vl.ownBlock ≠ some S
  err : Boxed W (w.heap.size + 4) 44 (.int .i64 0)
  fin : W.heap[w.heap.size + 3]? = some (.cells #[.int .i64 0, .int .i64 0, .int .i64 0] 58 (0, 0))
  cur : W.heap[w.heap.size]? = some (.cells cb 34 (0, 0))
  amt : W.heap[S + 2]? = some (.cells ab 29 (0, 0))
  ptr : W.heap[S + 1]? = some (.cells pb 123 (0, 0))
  loop : W.heap[D + 1]? = some (.loop rec)
  dfr : W.heap[D]? = some (.deferred (some []))
  low : Below w.heap.size w W

theorem Between.kept {c : Crv} {p : Pot3} {M : Nat → Int} {w : World} {cb ab pb : Array Value} {S D : Nat} {rec : Loop} {j : Nat} {W W' : World} (hS : w.heap.size + 5 ≤ S) (hD : S + 3 ≤ D)
    (h : Between c p M w cb ab pb S D rec j W) (hg : W.grownBy W' (some S)) : Between c p M w cb ab pb S D rec j W' := by
  have same : ∀ (B : Nat) (o : Obj), B ≠ S → W.heap[B]? = some o → W'.heap[B]? = some o := fun B o hB ho => (hg.block B (Array.getElem?_eq_some_iff.1 ho).1 (by simpa using hB)).trans ho
  obtain ⟨vl, hb, hr, hn⟩ := h.row
  exact ⟨⟨vl, hb.kept hg (by simp; omega), hr.kept hg (.inr hn), hn⟩, h.err.kept hg (by simp; omega), same _ _ (by omega) h.fin, same _ _ (by omega) h.cur, same _ _ (by omega) h.amt, same _ _ (by omega) h.ptr,
    same _ _ (by omega) h.loop, same _ _ (by omega) h.dfr, h.low.grown hg h.low.size (fun k e => by cases e; omega)⟩
end Go.Proofs.Ytfefmgadfklgmaa.L4

namespace Go
section
variable {P : Program} {ops : Array Oper} {Q : Exit → Act → List Frame → World → Prop} {md : Region.Mode}

end
end Go

namespace Go
open Go.RowKit
variable {n : Nat} {P : Program}

end Go

namespace Go.Proofs.Ytfefmgadfklgmaa.L4
open Go.RowKit

theorem five_stores {W5 : World} {N n2 n3 n4 : Nat} (t2 t3 t4 : TypeId) {u2 v2 a0 a1 a2 v0 v1 v3 u4 v4 : Value} (h2 : N ≤ n2) (h3 : N ≤ n3) (h4 : N ≤ n4) (h23 : n2 ≠ n3) (h24 : n2 ≠ n4) (h34 : n3 ≠ n4)
    (K2 : W5.heap[n2]? = some (.cells #[u2] t2 (0, 0))) (K3 : W5.heap[n3]? = some (.cells #[a0, a1, a2] t3 (0, 0))) (K4 : W5.heap[n4]? = some (.cells #[u4] t4 (0, 0))) {X : World}
    (hX : (((((W5.setCell ⟨n2, 0, none⟩ v2).setCell ⟨n3, 0, none⟩ v0).setCell ⟨n3, 1, none⟩ v1).setCell ⟨n3, 2, none⟩ v3).setCell ⟨n4, 0, none⟩ v4).drew = X) :
    (∀ B, B ≠ n2 → B ≠ n3 → B ≠ n4 → X.heap[B]? = W5.heap[B]?) ∧ X.heap[n2]? = some (.cells #[v2] t2 (0, 0)) ∧ X.heap[n3]? = some (.cells #[v0, v1, v3] t3 (0, 0)) ∧ X.heap[n4]? = some (.cells #[v4] t4 (0, 0)) ∧ Below N W5 X := by
  have far : ∀ (W : World) (b k : Nat) (v : Value) (B : Nat), B ≠ b → (W.setCell ⟨b, k, none⟩ v).heap[B]? = W.heap[B]? := fun W b k v B h => Below.heap_setCell W ⟨b, k, none⟩ v B h
  have dr : ∀ (W : World) (B : Nat), W.drew.heap[B]? = W.heap[B]? := fun _ _ => rfl
  subst hX
  refine ⟨fun B b2 b3 b4 => ?_, ?_, ?_, ?_, ?_⟩
  · rw [dr, far _ _ _ _ _ b4, far _ _ _ _ _ b3, far _ _ _ _ _ b3, far _ _ _ _ _ b3, far _ _ _ _ _ b2]
  · rw [dr, far _ _ _ _ _ h24, far _ _ _ _ _ h23, far _ _ _ _ _ h23, far _ _ _ _ _ h23]
    exact block_set 0 _ K2
  · rw [dr, far _ _ _ _ _ h34]
    exact block_set 2 _ (block_set 1 _ (block_set 0 _ ((far _ _ _ _ _ (Ne.symm h23)).trans K3)))
  · rw [dr]
    exact block_set 0 _ ((far _ _ _ _ _ (Ne.symm h34)).trans ((far _ _ _ _ _ (Ne.symm h34)).trans ((far _ _ _ _ _ (Ne.symm h34)).trans ((far _ _ _ _ _ (Ne.symm h24)).trans K4))))
  · exact ((((((Below.refl _ W5).setCell (p := ⟨n2, 0, none⟩) h2 _).setCell (p := ⟨n3, 0, none⟩) h3 _).setCell (p := ⟨n3, 1, none⟩) h3 _).setCell (p := ⟨n3, 2, none⟩) h3 _).setCell (p := ⟨n4, 0, none⟩) h4 _).drew

end Go.Proofs.Ytfefmgadfklgmaa.L4

namespace Go
open Go.RowKit
section
variable {P : Program} {w : World}
end
end Go
