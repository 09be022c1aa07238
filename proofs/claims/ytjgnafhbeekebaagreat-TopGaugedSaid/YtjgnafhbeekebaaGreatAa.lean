/- Laws on worlds that have grown, on regions that draw their order, on blocks and lists in memory. No conditions beyond each theorem's own. -/
import Derived.WalkKit
import Derived.WalkSpells
import Derived.WalkLawsBesides
import Derived.Deep.QuietTactic
import Derived.BigQuiet
import Derived.StillTail
import Derived.RangeFuncBox
import Derived.RangeFuncNested
import Derived.Laws.AppendOwnNone
import Derived.Deep.RegionHeld
set_option linter.unusedVariables false
set_option linter.unusedSimpArgs false
set_option linter.unusedSectionVars false
set_option linter.constructorNameAsVariable false
namespace Go
open Go.RowKit

/-- min, max of Go's builtins, under names that the walk does not open -/
def minZ (x y : Int) : Int := if y < x then y else x
def maxZ (x y : Int) : Int := if y > x then y else x
def minZ3 (x y z : Int) : Int := minZ (minZ x y) z
def maxZ3 (x y z : Int) : Int := maxZ (maxZ x y) z
theorem minZ_eq (x y : Int) : minZ x y = min x y := by unfold minZ; split <;> omega
theorem maxZ_eq (x y : Int) : maxZ x y = max x y := by unfold maxZ; split <;> omega
theorem minZ3_eq (x y z : Int) : minZ3 x y z = min x (min y z) := by unfold minZ3; rw [minZ_eq, minZ_eq]; omega
theorem maxZ3_eq (x y z : Int) : maxZ3 x y z = max x (max y z) := by unfold maxZ3; rw [maxZ_eq, maxZ_eq]; omega
section
variable {P : Program} (w : World)
theorem run_minZ (ts : Array TypeId) (t : TypeId) (k k' : IntKind) (x y : Int) : (Builtin.min_ ts t #[.int k x, .int k' y]).run P w = .ok (.int k (minZ x y)) w := run_min_int2 w ts t k k' x y
theorem run_maxZ (ts : Array TypeId) (t : TypeId) (k k' : IntKind) (x y : Int) : (Builtin.max_ ts t #[.int k x, .int k' y]).run P w = .ok (.int k (maxZ x y)) w := run_max_int2 w ts t k k' x y
theorem run_minZ3 (ts : Array TypeId) (t : TypeId) (k k' k'' : IntKind) (x y z : Int) : (Builtin.min_ ts t #[.int k x, .int k' y, .int k'' z]).run P w = .ok (.int k (minZ3 x y z)) w := run_min_int3 w ts t k k' k'' x y z
theorem run_maxZ3 (ts : Array TypeId) (t : TypeId) (k k' k'' : IntKind) (x y z : Int) : (Builtin.max_ ts t #[.int k x, .int k' y, .int k'' z]).run P w = .ok (.int k (maxZ3 x y z)) w := run_max_int3 w ts t k k' k'' x y z
end

/-- What has been added: blocks, draws. -/
structure Grew where
  bs : Array Obj
  d : Nat
instance : Nonempty Grew := ⟨⟨#[], 0⟩⟩

/-- w with blocks x.bs more and x.d draws in all. -/
def gw (w : World) (x : Grew) : World := { w with heap := w.heap ++ x.bs, drawn := x.d }

theorem gw_size (w : World) (x : Grew) : (gw w x).heap.size = w.heap.size + x.bs.size := by simp [gw]

theorem gw_block (w : World) (x : Grew) (k : Nat) (h : k < w.heap.size) : (gw w x).heap[k]? = w.heap[k]? := by
  simp [gw, Array.getElem?_append, h]

theorem gw_cell {w : World} {x : Grew} {p : Addr} (h : p.block < w.heap.size) : (gw w x).cell? p = w.cell? p :=
  World.cell?_of_block (w := w) (gw_block w x p.block h)
theorem gw_frozen {w : World} {x : Grew} {p : Addr} (h : p.block < w.heap.size) : (gw w x).frozen? p = w.frozen? p :=
  World.frozen?_of_block (w := w) (gw_block w x p.block h)

theorem below_gw (w : World) (x : Grew) : Below w.heap.size w (gw w x) :=
  ⟨rfl, rfl, rfl, by simp [gw], fun k hk => gw_block w x k hk⟩

theorem RowKit.Below.gw {w W : World} (h : Below w.heap.size w W) (x : Grew) : Below w.heap.size w (Go.gw W x) := h.trans ((below_gw W x).mono h.size)

theorem gw_of_below {w w' : World} (h : Below w.heap.size w w') : ∃ x, w' = gw w x := by
  refine ⟨⟨w'.heap.extract w.heap.size w'.heap.size, w'.drawn⟩, ?_⟩
  have hh : w'.heap = w.heap ++ w'.heap.extract w.heap.size w'.heap.size := by
    apply Array.ext_getElem?
    intro k
    rw [Array.getElem?_append]
    split
    · rename_i hk; exact h.block k hk
    · rename_i hk
      rw [Array.getElem?_extract]
      split
      · rw [show w.heap.size + (k - w.heap.size) = k by omega]
      · rename_i hk2
        have := h.size
        exact Array.getElem?_eq_none (by omega)
  obtain ⟨hp, tp, dr, o, ou⟩ := w'
  have h1 := h.os; have h2 := h.tape; have h3 := h.output
  simp only at h1 h2 h3 hh
  subst h1 h2 h3
  simp only [gw]
  congr 1

theorem gw_drew (w : World) (x : Grew) : (gw w x).drew = gw w ⟨x.bs, x.d + 1⟩ := rfl

/-- A contract of a function that makes memory and writes nothing that was there, in the class of the world in which a region began. -/
theorem Calls.gw_of {P : Program} {f : FuncId} {args : Array Value} {w : World} {x : Grew} {v : Value}
    (h : Calls P f args (gw w x) fun e w' => e = .returned v ∧ Below (gw w x).heap.size (gw w x) w') :
    Calls P f args (gw w x) fun e w'' => e = .returned v ∧ ∃ x', w'' = gw w x' :=
  h.mono fun _ _ ⟨he, hb⟩ => ⟨he, gw_of_below ((below_gw w x).trans (hb.mono (by simp [gw])))⟩

theorem Calls.gw_of_same {P : Program} {f : FuncId} {args : Array Value} {w : World} {x : Grew} {v : Value}
    (h : Calls P f args (gw w x) fun e w' => e = .returned v ∧ gw w x = w') :
    Calls P f args (gw w x) fun e w'' => e = .returned v ∧ ∃ x', w'' = gw w x' :=
  h.mono fun _ _ ⟨he, hb⟩ => ⟨he, x, hb.symm⟩

/-- At a call outside such a region. -/
theorem Calls.grown {P : Program} {f : FuncId} {args : Array Value} {w : World} {v : Value}
    (h : Calls P f args w fun e w' => e = .returned v ∧ Below w.heap.size w w') :
    Calls P f args w fun e w'' => e = .returned v ∧ ∃ x, w'' = gw w x :=
  h.mono fun _ _ ⟨he, hb⟩ => ⟨he, gw_of_below hb⟩

section
variable {P : Program} {ops : Array Oper} {md : Region.Mode} {C : World → Prop}

theorem wp_region_gw {id : Nat} {Q : Exit → Act → World → Prop} {a : Act} {w : World} {l : List Oper} (hm : P.follows .mixedOrders = true) (hB : Region.lexB .any l.toArray = true)
    (h : wpQuiet P l.toArray (fun w' => ∃ x, w' = gw w x) (fun a' => ∀ w', (∃ x, w' = gw w x) → Q .normal a' w') l a) : (Code.region id l.toArray true).wp P Q a w :=
  wp_region_quiet (C := fun w' => ∃ x, w' = gw w x) hm hB ⟨⟨#[], w.drawn + 1⟩, by simp [gw]⟩ (by simpa using h)

/-- The same, begun in a grown world. -/
theorem wp_region_gw2 {id : Nat} {Q : Exit → Act → World → Prop} {a : Act} {w : World} {x : Grew} {l : List Oper} (hm : P.follows .mixedOrders = true) (hB : Region.lexB .any l.toArray = true)
    (h : wpQuiet P l.toArray (fun w' => ∃ x, w' = gw w x) (fun a' => ∀ w', (∃ x, w' = gw w x) → Q .normal a' w') l a) : (Code.region id l.toArray true).wp P Q a (gw w x) :=
  wp_region_quiet (C := fun w' => ∃ x, w' = gw w x) hm hB ⟨⟨x.bs, x.d + 1⟩, rfl⟩ (by simpa using h)

/-- The first 'f' operations that come up are among the first n and quiet in the class; then L. -/
def wpAnyT (P : Program) (md : Region.Mode) (ops : Array Oper) (C : World → Prop) (n : Nat) (L : Array Bool → Act → Prop) : Nat → Array Bool → Act → Prop
  | 0, listed, a => L listed a
  | f + 1, listed, a =>
    Region.ready md ops listed ≠ [] ∧ ∀ i ∈ Region.ready md ops listed, i < n ∧ qOp P ops C i (wpAnyT P md ops C n L f (listed.setIfInBounds i true)) a

theorem wpAny_of_headT {n g : Nat} {L : Array Bool → Act → Prop} {Q' : Exit → Act → World → Prop} (hL : ∀ listed a w, C w → L listed a → wpAny P md ops Q' g listed a w) :
    ∀ (f : Nat) (listed : Array Bool) (a : Act) (w : World), C w → wpAnyT P md ops C n L f listed a → wpAny P md ops Q' (f + g) listed a w
  | 0, listed, a, w, hC, h => by rw [Nat.zero_add]; exact hL _ _ _ hC h
  | f + 1, listed, a, w, hC, h => by
    rw [show f + 1 + g = (f + g) + 1 by omega]
    exact ⟨fun h0 => absurd h0 h.1, fun i hi => wpOp_of_qOp hC (fun a' w' hC' h' => wpAny_of_headT hL f _ a' w' hC' h') (h.2 i hi).2⟩

theorem wpAnyT_first {n i : Nat} {oi : Oper} {v : Value} {L : Array Bool → Act → Prop} (hi : ops[i]? = some oi) (hsel : ∀ (j : Nat) (o : Oper) cs b, ops[j]? = some o → o.op ≠ .select cs b)
    (hs : Region.sinkB md ops n = true) (hc : Region.chainB md ops n = true) (hn : n < ops.size) (hin : i < n)
    (hdone : ∀ listed a, L listed a → ∀ j ∈ Region.ready md ops listed, n ≤ j) :
    ∀ (f : Nat) (listed : Array Bool) (a : Act), HeadInv md ops n listed →
      (∀ j oj, ops[j]? = some oj → j ≠ i → listed.getD j true = false → (∀ e ∈ oj.after, Region.binds md e = true → e.on ≠ i) → oi.apart ops oj = true) →
      i ∈ Region.ready md ops listed → YieldsIn P ops C oi v a →
      wpAnyT P md ops C n L f (listed.setIfInBounds i true) (a.put oi.dst v) → wpAnyT P md ops C n L (f + 1) listed a := by
  intro f
  induction f with
  | zero =>
    intro listed a inv _ hr hy H
    have hun := (mem_ready.1 hr).1
    refine ⟨fun h => (by rw [h] at hr; cases hr), fun j hj => ?_⟩
    have hjn : j < n := by
      rcases Nat.lt_or_ge j n with h | h
      · exact h
      · exact absurd hj (tail_waits hs hc hn inv _ i rfl hin hun j h)
    refine ⟨hjn, ?_⟩
    by_cases hji : j = i
    · subst hji; exact hy.qOp hi H
    · have := hdone _ _ H j (ready_mono hj hji)
      omega
  | succ f ih =>
    intro listed a inv hfree hr hy H
    have hun := (mem_ready.1 hr).1
    refine ⟨fun h => (by rw [h] at hr; cases hr), fun j hj => ?_⟩
    have hjn : j < n := by
      rcases Nat.lt_or_ge j n with h | h
      · exact h
      · exact absurd hj (tail_waits hs hc hn inv _ i rfl hin hun j h)
    refine ⟨hjn, ?_⟩
    by_cases hji : j = i
    · subst hji; exact hy.qOp hi H
    · have h1 := (H.2 j (ready_mono hj hji)).2
      obtain ⟨hjun, oj, hoj, hall⟩ := mem_ready.1 hj
      have hnot : ∀ e ∈ oj.after, Region.binds md e = true → e.on ≠ i := fun e he hb heq => by
        have h1 := hall e he hb
        rw [heq, getD_both hun] at h1
        cases h1
      have h2 := qOp_put hoj (hfree j oj hoj hji hjun hnot) (fun cs b => hsel i oi cs b hi) (fun cs b => hsel j oj cs b hoj) hy h1
      have hfree' : ∀ k ok, ops[k]? = some ok → k ≠ i → (listed.setIfInBounds j true).getD k true = false →
          (∀ e ∈ ok.after, Region.binds md e = true → e.on ≠ i) → oi.apart ops ok = true := fun k ok hk hki hun hno => by
        refine hfree k ok hk hki ?_ hno
        by_cases hjk : j = k
        · subst hjk; exact hjun
        · rw [getD_set_ne true hjk] at hun; exact hun
      refine qOp_mono (fun a' h3 => ih (listed.setIfInBounds j true) a' (inv.set hj hjn) hfree' (ready_mono hr (Ne.symm hji)) h3.1 ?_) h2
      rw [Array.setIfInBounds_comm _ _ hji]
      exact h3.2

theorem wpAnyT_lex {n g : Nat} {Lq : Act → Prop} (hsel : Region.noSelect ops = true) (hs : Region.sinkB md ops n = true) (hc : Region.chainB md ops n = true) (hn : n < ops.size) :
    ∀ (l : List Oper) (k : Nat) (listed : Array Bool) (a : Act), (∀ j, j < l.length → l[j]? = ops[k + j]?) → k + l.length = n → HeadInv md ops n listed →
    Region.lexHead md ops g l.length k listed = true → wpQuiet P ops C Lq l a →
    wpAnyT P md ops C n (fun listed' a' => Region.seqB md ops g n listed' = true ∧ Lq a') l.length listed a
  | [], k, listed, a, _, hk, _, hB, h => by
    have : k = n := by simpa using hk
    subst this
    exact ⟨by simpa [Region.lexHead] using hB, h⟩
  | o :: l, k, listed, a, hl, hk, inv, hB, h => by
    have h0 : ops[k]? = some o := by simpa using (hl 0 (by simp)).symm
    simp only [List.length_cons, Region.lexHead, Bool.and_eq_true] at hB
    obtain ⟨⟨hr, hf⟩, hB'⟩ := hB
    have hkn : k < n := by simp only [List.length_cons] at hk; omega
    have hr' : k ∈ Region.ready md ops listed := by simpa using hr
    have hst : qOp P ops C k (wpQuiet P ops C Lq l) a := by unfold qOp; simp only [h0]; exact h
    obtain ⟨v, hy, hK⟩ := yieldsIn_of_qOp h0 hst
    exact wpAnyT_first h0 (Region.noSelect_spec hsel) hs hc hn hkn (fun listed' a' hL => seqB_ready hL.1) l.length listed a inv (Region.free_spec h0 hf) hr' hy
      (wpAnyT_lex hsel hs hc hn l (k + 1) _ _ (fun j hj => by have := hl (j + 1) (by simp; omega); simpa [Nat.add_assoc, Nat.add_comm 1 j] using this) (by simp only [List.length_cons] at hk; omega) (inv.set hr' hkn) hB' hK)

/-- A region whose first n operations are quiet in the class, and whose others come behind them in one forced order: walked once. -/
theorem wp_region_gw_tail {id : Nat} {Q : Exit → Act → World → Prop} {a : Act} {w : World} {l : List Oper} (n : Nat) (hm : P.follows .mixedOrders = true) (hB : Region.lexTailB .any l.toArray n = true)
    (h : wpQuiet P l.toArray (fun w' => ∃ x, w' = gw w x) (fun a' => ∀ w', (∃ x, w' = gw w x) → wpList P l.toArray Q (l.drop n) a' w') (l.take n) a) : (Code.region id l.toArray true).wp P Q a w := by
  simp only [Region.lexTailB, Bool.and_eq_true, decide_eq_true_eq] at hB
  obtain ⟨⟨⟨⟨hsel, hn⟩, hs⟩, hc⟩, hlex⟩ := hB
  have hn' : n < l.length := by simpa using hn
  have htl : (l.take n).length = n := by simp; omega
  have hdl : (l.drop n).length = l.toArray.size - n := by simp
  have inv0 : HeadInv .any l.toArray n (Array.replicate l.toArray.size false) :=
    ⟨by simp, fun j oj _ hl => (by rw [getD_replicate_false] at hl; cases hl), fun t _ ht => getD_in (by simpa using ht) (getD_replicate_false _ _)⟩
  have H := wpAnyT_lex (md := .any) (g := l.toArray.size - n) hsel hs hc hn (l.take n) 0 _ a (fun j hj => by
    have hj' : j < n := by rw [htl] at hj; exact hj
    simp [hj']) (by simpa using htl) inv0 (by rw [htl]; exact hlex) h
  refine wp_region_any hm ?_
  have := wpAny_of_headT (Q' := Q) (g := l.toArray.size - n) (fun listed a' w' hC hL => by
    have := wpAny_of_seq (md := .any) (Q' := Q) (l.drop n) n listed a' w' (fun j => by simp [List.getElem?_drop]) (by rw [hdl]; exact hL.1) (hL.2 w' hC)
    rwa [hdl] at this) _ _ _ { w with drawn := w.drawn + 1 } ⟨⟨#[], w.drawn + 1⟩, by simp [gw]⟩ H
  rw [htl, show n + (l.toArray.size - n) = l.toArray.size by omega] at this
  exact this
/-- A region whose first n operations are quiet in the class, and whose others come behind them in one forced order: walked once; begun in a grown world. -/
theorem wp_region_gw_tail2 {id : Nat} {Q : Exit → Act → World → Prop} {a : Act} {w : World} {x : Grew} {l : List Oper} (n : Nat) (hm : P.follows .mixedOrders = true) (hB : Region.lexTailB .any l.toArray n = true)
    (h : wpQuiet P l.toArray (fun w' => ∃ x, w' = gw w x) (fun a' => ∀ w', (∃ x, w' = gw w x) → wpList P l.toArray Q (l.drop n) a' w') (l.take n) a) : (Code.region id l.toArray true).wp P Q a (gw w x) := by
  simp only [Region.lexTailB, Bool.and_eq_true, decide_eq_true_eq] at hB
  obtain ⟨⟨⟨⟨hsel, hn⟩, hs⟩, hc⟩, hlex⟩ := hB
  have hn' : n < l.length := by simpa using hn
  have htl : (l.take n).length = n := by simp; omega
  have hdl : (l.drop n).length = l.toArray.size - n := by simp
  have inv0 : HeadInv .any l.toArray n (Array.replicate l.toArray.size false) :=
    ⟨by simp, fun j oj _ hl => (by rw [getD_replicate_false] at hl; cases hl), fun t _ ht => getD_in (by simpa using ht) (getD_replicate_false _ _)⟩
  have H := wpAnyT_lex (md := .any) (g := l.toArray.size - n) hsel hs hc hn (l.take n) 0 _ a (fun j hj => by
    have hj' : j < n := by rw [htl] at hj; exact hj
    simp [hj']) (by simpa using htl) inv0 (by rw [htl]; exact hlex) h
  refine wp_region_any hm ?_
  have := wpAny_of_headT (Q' := Q) (g := l.toArray.size - n) (fun listed a' w' hC hL => by
    have := wpAny_of_seq (md := .any) (Q' := Q) (l.drop n) n listed a' w' (fun j => by simp [List.getElem?_drop]) (by rw [hdl]; exact hL.1) (hL.2 w' hC)
    rwa [hdl] at this) _ _ _ { gw w x with drawn := (gw w x).drawn + 1 } ⟨⟨x.bs, x.d + 1⟩, rfl⟩ H
  rw [htl, show n + (l.toArray.size - n) = l.toArray.size by omega] at this
  exact this
end
end Go

namespace Go.Proofs.YtjgnafhbeekebaaGreat
open Go.RowKit

/-- low ≤ n ≤ high -/
def inB (n low high : Int) : Bool := decide (low ≤ n) && decide (n ≤ high)
/-- a span within limits -/
def spanB (lo hi low high : Int) : Bool := decide (low ≤ lo) && (decide (lo ≤ hi) && decide (hi ≤ high))
theorem inB_t {n low high : Int} : inB n low high = true ↔ low ≤ n ∧ n ≤ high := by simp [inB]
theorem spanB_t {lo hi low high : Int} : spanB lo hi low high = true ↔ low ≤ lo ∧ lo ≤ hi ∧ hi ≤ high := by simp [spanB]
theorem inB_f {n low high : Int} : inB n low high = false ↔ ¬ (low ≤ n ∧ n ≤ high) := by rw [← inB_t]; simp
theorem spanB_f {lo hi low high : Int} : spanB lo hi low high = false ↔ ¬ (low ≤ lo ∧ lo ≤ hi ∧ hi ≤ high) := by rw [← spanB_t]; simp
/-- (a + b - 1) / b -/
def upI (a b : Int) : Int := (a + b - 1) / b
theorem upI_nonneg {a b : Int} (ha : 0 ≤ a) (hb : 1 ≤ b) : 0 ≤ upI a b := Int.ediv_nonneg (by omega) (by omega)
theorem upI_le {a b c : Int} (hb : 1 ≤ b) (h : a ≤ c * b) : upI a b ≤ c := by
  unfold upI
  have : a + b - 1 < (c + 1) * b := by rw [Int.add_mul]; omega
  have := Int.ediv_lt_of_lt_mul (by omega) this
  omega
theorem le_upI {a b : Int} (hb : 1 ≤ b) : a ≤ upI a b * b := by
  unfold upI
  have := Int.emod_add_mul_ediv (a + b - 1) b
  have h2 := Int.emod_lt_of_pos (a + b - 1) (show 0 < b by omega)
  rw [Int.mul_comm]; omega
theorem all_succ {P : Nat → Prop} {k : Nat} (h : ∀ j, j < k → P j) (hk : P k) : ∀ j, j < k + 1 → P j := fun j hj => by
  rcases Nat.lt_or_eq_of_le (Nat.lt_succ_iff.1 hj) with h' | h'
  · exact h j h'
  · rw [h']; exact hk
/-- a slice's numbers -/
def IntsAt (w : World) (a : Option Addr) (n : Nat) (L : Nat → Int) : Prop :=
  n = 0 ∨ ∃ b off, a = some ⟨b, off, none⟩ ∧ b < w.heap.size ∧ ∀ i, i < n → w.cell? ⟨b, off + i, none⟩ = some (.int .i64 (L i))
/-- a slice's spans -/
def SpansAt (w : World) (a : Option Addr) (n : Nat) (A B : Nat → Int) : Prop :=
  n = 0 ∨ ∃ b off, a = some ⟨b, off, none⟩ ∧ b < w.heap.size ∧ ∀ i, i < n → w.cell? ⟨b, off + i * 2, none⟩ = some (.int .i64 (A i)) ∧ w.cell? ⟨b, off + i * 2 + 1, none⟩ = some (.int .i64 (B i))
theorem IntsAt.below {w w' : World} {a : Option Addr} {n : Nat} {L : Nat → Int} (h : IntsAt w a n L) (hb : Below w.heap.size w w') : IntsAt w' a n L := by
  rcases h with h | ⟨b, off, rfl, hlt, hc⟩
  · exact .inl h
  · exact .inr ⟨b, off, rfl, Nat.lt_of_lt_of_le hlt hb.size, fun i hi => (hb.cell (p := ⟨b, off + i, none⟩) hlt).trans (hc i hi)⟩
theorem SpansAt.below {w w' : World} {a : Option Addr} {n : Nat} {A B : Nat → Int} (h : SpansAt w a n A B) (hb : Below w.heap.size w w') : SpansAt w' a n A B := by
  rcases h with h | ⟨b, off, rfl, hlt, hc⟩
  · exact .inl h
  · exact .inr ⟨b, off, rfl, Nat.lt_of_lt_of_le hlt hb.size, fun i hi => ⟨(hb.cell (p := ⟨b, off + i * 2, none⟩) hlt).trans (hc i hi).1, (hb.cell (p := ⟨b, off + i * 2 + 1, none⟩) hlt).trans (hc i hi).2⟩⟩
/-- how many of the first numbers are below x, up to the first that is not -/
def lb (L : Nat → Int) (x : Int) : Nat → Nat
  | 0 => 0
  | n + 1 => if lb L x n = n ∧ L n < x then n + 1 else lb L x n
theorem lb_le (L : Nat → Int) (x : Int) : ∀ n, lb L x n ≤ n
  | 0 => Nat.le_refl _
  | n + 1 => by unfold lb; have := lb_le L x n; split <;> omega
theorem lb_lt (L : Nat → Int) (x : Int) : ∀ n t, t < lb L x n → L t < x
  | 0, t, h => by simp [lb] at h
  | n + 1, t, h => by
    unfold lb at h
    split at h
    · rename_i hc
      by_cases e : t = n
      · rw [e]; exact hc.2
      · exact lb_lt L x n t (by rw [hc.1]; omega)
    · exact lb_lt L x n t h
theorem lb_stop (L : Nat → Int) (x : Int) : ∀ n, lb L x n < n → ¬ L (lb L x n) < x
  | 0, h => by simp at h
  | n + 1, h => by
    unfold lb at h ⊢
    split
    · rename_i hc; simp only [hc, and_self, if_true] at h; omega
    · rename_i hc
      simp only [hc, if_false] at h
      by_cases e : lb L x n = n
      · rw [e]; exact fun hx => hc ⟨e, hx⟩
      · exact lb_stop L x n (by have := lb_le L x n; omega)
theorem lb_unique {L : Nat → Int} {x : Int} {n i : Nat} (hi : i ≤ n) (h1 : ∀ t, t < i → L t < x) (h2 : i < n → ¬ L i < x) : i = lb L x n := by
  have a := lb_le L x n
  rcases Nat.lt_trichotomy i (lb L x n) with h | h | h
  · exact absurd (lb_lt L x n i h) (h2 (by omega))
  · exact h
  · exact absurd (h1 _ h) (lb_stop L x n (by omega))
/-- whether x is there -/
def foundB (L : Nat → Int) (x : Int) (n : Nat) : Bool := decide (lb L x n < n) && decide (L (lb L x n) = x)
theorem mono_of {n : Nat} {L : Nat → Int} (h : ∀ i, i + 1 < n → L i ≤ L (i + 1)) : ∀ s t, s ≤ t → t < n → L s ≤ L t := fun s t hst => by
  induction t with
  | zero => intro _; rw [Nat.le_zero.1 hst]; exact Int.le_refl _
  | succ t ih =>
    intro ht
    rcases Nat.lt_or_eq_of_le hst with h' | h'
    · exact Int.le_trans (ih (by omega) (by omega)) (h t ht)
    · rw [h']; exact Int.le_refl _
theorem block_set {w : World} {b : Nat} {c : Array Value} {t : TypeId} (k : Nat) (v : Value) (h : w.heap[b]? = some (.cells c t (0, 0))) : (w.setCell ⟨b, k, none⟩ v).heap[b]? = some (.cells (c.setIfInBounds k v) t (0, 0)) := by
  obtain ⟨hlt, hk⟩ := Array.getElem?_eq_some_iff.1 h
  show (w.heap.modify b _)[b]? = _
  rw [Array.getElem?_eq_getElem (by rw [Array.size_modify]; exact hlt), Array.getElem_modify_self, hk]
  rfl
theorem grownBy_set (W : World) (b k : Nat) (v : Value) : W.grownBy (W.setCell ⟨b, k, none⟩ v) (some b) :=
  ⟨rfl, rfl, rfl, (KeepsWalks.setCell W _ v).size, fun j _ hj => Below.heap_setCell _ _ _ j (fun e => hj (by rw [e]))⟩
theorem grownBy_of_below {w w' : World} (h : Below w.heap.size w w') (row : Option Nat) : w.grownBy w' row := ⟨h.os, h.tape, h.output, h.size, fun k hk _ => h.block k hk⟩
theorem grownBy_trans {a b c : World} {row : Option Nat} (h : a.grownBy b row) (k : b.grownBy c row) : a.grownBy c row :=
  ⟨k.os.trans h.os, k.tape.trans h.tape, k.output.trans h.output, Nat.le_trans h.size k.size, fun j hj hr => (k.block j (Nat.lt_of_lt_of_le hj h.size) hr).trans (h.block j hj hr)⟩
theorem cell_of_block {w : World} {b : Nat} {c : Array Value} {t : TypeId} (h : w.heap[b]? = some (.cells c t (0, 0))) (k : Nat) (hk : k < c.size) : w.cell? ⟨b, k, none⟩ = some c[k] := by
  simp [World.cell?, h, hk]
theorem frozen_of_block {w : World} {b : Nat} {c : Array Value} {t : TypeId} (h : w.heap[b]? = some (.cells c t (0, 0))) (k : Nat) : w.frozen? ⟨b, k, none⟩ = false := by
  simp [World.frozen?, h]
/-- a row's block is no block of another make -/
theorem far_row {W : World} {base size k : Nat} {e : TypeId} {v : Value} {xs : List Value} (hr : W.ownsRow base e size v k xs) {B : Nat} {o : Obj} (h : W.heap[B]? = some o) (ho : ∀ cur, o ≠ .cells cur e (0, 0)) : some B ≠ v.ownBlock := by
  rcases hr.2 with ⟨rfl, _⟩ | ⟨g, cap, cur, rfl, _, hgb, _⟩
  · simp [Value.ownBlock]
  · intro e'
    obtain rfl : B = g := by simpa [Value.ownBlock] using e'
    exact ho cur (Option.some.inj (h.symm.trans hgb))
theorem row_low {W : World} {base size k : Nat} {e : TypeId} {v : Value} {xs : List Value} (hr : W.ownsRow base e size v k xs) {B : Nat} (h : B < base) : some B ≠ v.ownBlock := by
  rcases hr.2 with ⟨rfl, _⟩ | ⟨g, cap, cur, rfl, hg, _, _⟩
  · simp [Value.ownBlock]
  · intro e'
    obtain rfl : B = g := by simpa [Value.ownBlock] using e'
    omega
theorem thru {w X w1 : World} (hb : Below X.heap.size X w1) (h : Below w.heap.size w X) : Below w.heap.size w w1 := h.trans (hb.mono h.size)
def True1 (w : World) (e : Ending) (w' : World) : Prop := e = .returned (.bool true) ∧ Below w.heap.size w w'
theorem ret_bool {a b : Bool} (h : a = b) : Ending.returned (.bool a) = .returned (.bool b) := by rw [h]
theorem below_alloc (W : World) (o : Obj) : Below W.heap.size W (W.alloc o) := (Below.refl _ W).alloc (Nat.le_refl _) o
theorem ints_get {W : World} {a : Option Addr} {n : Nat} {M : Nat → Int} (h : IntsAt W a n M) (hn : 0 < n) : ∃ b off, a = some ⟨b, off, none⟩ ∧ b < W.heap.size ∧ ∀ i, i < n → W.cell? ⟨b, off + i, none⟩ = some (.int .i64 (M i)) := by
  rcases h with h | h
  · omega
  · exact h
theorem gw_gw (w : World) (x y : Grew) : ∃ z, gw (gw w x) y = gw w z := ⟨⟨x.bs ++ y.bs, y.d⟩, by simp [gw]⟩
theorem row_cells {W : World} {base n : Nat} {e : TypeId} {size : Nat} {g cap : Nat} {xs : List Value} (h : W.ownsRow base e size (.slice (some ⟨g, 0, none⟩) n cap) n xs) (i : Nat) (u : Value) (hu : xs[i]? = some u) : W.cell? ⟨g, i, none⟩ = some u := by
  have := h.cells (g := g) rfl i u hu
  rw [← this]
  congr 1
  unfold Addr.add
  split
  · rename_i h0; rw [h0]
  · simp
def innerI (lo hi b : Int) : Int := lo + b % (hi - lo + 1)
theorem innerI_range {lo hi b : Int} (h : lo ≤ hi) : lo ≤ innerI lo hi b ∧ innerI lo hi b ≤ hi := by
  unfold innerI
  have h1 := Int.emod_nonneg b (show hi - lo + 1 ≠ 0 by omega)
  have h2 := Int.emod_lt_of_pos b (show 0 < hi - lo + 1 by omega)
  omega
theorem below_cell {W w1 : World} {b o : Nat} {v : Value} (hb : Below W.heap.size W w1) (h : W.cell? ⟨b, o, none⟩ = some v) : w1.cell? ⟨b, o, none⟩ = some v :=
  (hb.cell (p := ⟨b, o, none⟩) (World.block_lt_of_cell? W _ h)).trans h
theorem below_drew (W : World) : Below W.heap.size W W.drew := (Below.refl _ W).drew
theorem below_alloc_drew (W : World) (o : Obj) : Below W.heap.size W (W.alloc o).drew := (below_alloc W o).drew
theorem own_below {w w' : World} {base size n : Nat} {e : TypeId} {v : Value} {xs : List Value} (h : w.ownsRow base e size v n xs) (hb : Below w.heap.size w w') : w'.ownsRow base e size v n xs := by
  refine h.kept (grownBy_of_below hb none) ?_
  cases v.ownBlock with
  | none => exact .inl rfl
  | some g => exact .inr (by simp)
theorem block_set3 {W : World} {b : Nat} {a0 b0 c0 : Value} {t : TypeId} (h : W.heap[b]? = some (.cells #[a0, b0, c0] t (0, 0))) (x y z : Value) : (((W.setCell ⟨b, 0, none⟩ x).setCell ⟨b, 1, none⟩ y).setCell ⟨b, 2, none⟩ z).heap[b]? = some (.cells #[x, y, z] t (0, 0)) := block_set 2 z (block_set 1 y (block_set 0 x h))
theorem set3_other {W : World} {b B : Nat} (h : b ≠ B) (x y z : Value) : (((W.setCell ⟨B, 0, none⟩ x).setCell ⟨B, 1, none⟩ y).setCell ⟨B, 2, none⟩ z).heap[b]? = W.heap[b]? := by
  rw [Below.heap_setCell _ _ _ _ (by simpa using h), Below.heap_setCell _ _ _ _ (by simpa using h), Below.heap_setCell _ _ _ _ (by simpa using h)]
theorem below_cell' {W w1 : World} {b o : Nat} {v : Value} (hb : Below W.heap.size W w1) (h : W.cell? ⟨b, o, none⟩ = some v) : w1.cell? ⟨b, o, none⟩ = some v :=
  (hb.cell (p := ⟨b, o, none⟩) (World.block_lt_of_cell? W _ h)).trans h
theorem emod_nat (k n : Nat) : ((k : Int) % (n : Int)) = ((k % n : Nat) : Int) := (Int.natCast_emod k n).symm
theorem upI_mono {a b c : Int} (hc : 1 ≤ c) (h : a ≤ b) : upI a c ≤ upI b c := by unfold upI; exact Int.ediv_le_ediv (by omega) (by omega)
theorem setCell_self {w : World} {B k : Nat} {v : Value} (h : w.cell? ⟨B, k, none⟩ = some v) : w.setCell ⟨B, k, none⟩ v = w := by
  have e : (w.setCell ⟨B, k, none⟩ v).heap = w.heap := by
    simp only [World.setCell]
    apply Array.ext_getElem?
    intro j
    rw [Array.getElem?_modify]
    split
    · rename_i hj
      subst hj
      simp only [World.cell?] at h
      split at h
      · rename_i c t f hb
        rw [hb]
        simp at h ⊢
        apply Array.ext_getElem?
        intro i
        rw [Array.getElem?_setIfInBounds]
        split
        · rename_i hi
          subst hi
          rw [h]
          have := (Array.getElem?_eq_some_iff.1 h).1
          rw [if_pos this]
        · rfl
      · cases h
    · rfl
  have e2 : w.setCell ⟨B, k, none⟩ v = { w with heap := (w.setCell ⟨B, k, none⟩ v).heap } := rfl
  rw [e2, e]
theorem row_set1 {W : World} {base size n B : Nat} {e : TypeId} {v : Value} {xs : List Value} (h : W.ownsRow base e size v n xs) (hB : v.ownBlock ≠ some B) (x : Value) : (W.setCell ⟨B, 0, none⟩ x).ownsRow base e size v n xs := h.kept (grownBy_set W B 0 x) (.inr hB)
theorem ints_of_own {w : World} {base k : Nat} {e : TypeId} {D : Nat → Int} {v : Value} (h : w.ownsRow base e 1 v k ((List.range k).map fun j => .int .i64 (D j))) : ∃ a cap, v = .slice a k cap ∧ IntsAt w a k D := by
  rcases h.2 with ⟨rfl, h0⟩ | ⟨g, cap, cur, rfl, hg, hgb, _⟩
  · exact ⟨none, 0, by rw [h0], .inl h0⟩
  · refine ⟨_, cap, rfl, .inr ⟨g, 0, rfl, (Array.getElem?_eq_some_iff.1 hgb).1, fun i hi => ?_⟩⟩
    rw [Nat.zero_add]
    exact row_cells h i _ (by simp [hi])
end Go.Proofs.YtjgnafhbeekebaaGreat

namespace Go
section
variable {P : Program} {w : World}
theorem wpList_wanted {ops : Array Oper} {rest : List Oper} {o : Oper} {a : Act} {Q : Exit → Act → World → Prop} (hgd : Region.wanted o (yielded ops a.tmps) = true)
    (h : ∀ K : Act → World → Prop, (∀ a w, wpList P ops Q rest a w → K a w) → o.wp P a w K Q) : wpList P ops Q (o :: rest) a w :=
  wpList_step fun K hK => by rw [if_pos hgd]; exact h K hK

/-- append(a, b...), both owned rows -/
theorem wpList_append_rows {ops : Array Oper} {rest : List Oper} {o : Oper} {a : Act} {Q : Exit → Act → World → Prop} (hgd : Region.wanted o (yielded ops a.tmps) = true) (s x : Operand) (t : TypeId)
    (ho : o.op = .call { callee := .builtin .append, args := #[s, x], argTypes := #[t, t] })
    (base : Nat) (e : TypeId) (i : TypeInfo) (z : Value) (size bytes : Nat) (ht : P.underlying t = some (.slice e)) (hi : P.info? e = some i) (hz : i.zero = some z)
    (hsize : i.size = size) (hby : i.bytes = bytes) (hzs : z.cells.size = size) (hsz : 0 < size)
    (v : Value) (n : Nat) (xs : List Value) (hs : a.eval s = v) (hown : w.ownsRow base e size v n xs)
    (u : Value) (m base2 : Nat) (news : List Value) (hx : a.eval x = u) (hown2 : w.ownsRow base2 e size u m news) (h1 : ∀ u ∈ news, u.oneCell' = true)
    (h63 : n + m ≤ maxLen) (hbytes : (n + m) * bytes ≤ 140737488355328) (hbase : base ≤ w.heap.size)
    (h : ∀ v' w', w'.ownsRow base e size v' (n + m) (xs ++ news) → w.grownBy w' v.ownBlock → wpList P ops Q rest (a.put o.dst v') w') : wpList P ops Q (o :: rest) a w := by
  refine wpList_wanted hgd fun K hK => ?_
  rcases hown2.2 with ⟨rfl, rfl⟩ | ⟨g, cap, cur, rfl, _, _, _, _, _, _⟩
  · have hrun := run_append_owned_none (P := P) (w := w) base t o.type e i size ht hi v n xs hown
    have hn : news = [] := List.length_eq_zero_iff.1 (by simpa using hown2.1)
    subst hn
    unfold Oper.wp
    simp [execOp, ho, resolve, invoke, builtin, hs, hx, hrun, Result.andThen]
    exact hK _ _ (h v w (by simpa using hown) ⟨rfl, rfl, rfl, Nat.le_refl _, fun _ _ _ => rfl⟩)
  · exact wp_append_own w s x t ho base e i z size bytes ht hi hz hsize hby hzs hsz v n xs hs hown ⟨g, 0, none⟩ m cap news hx hown2.1 (hown2.cells (g := g) rfl) h1 h63 hbytes hbase fun v' w' h2 h3 _ => hK _ _ (h v' w' h2 h3)

theorem World.ownsRow.base {base base' : Nat} {e : TypeId} {size n : Nat} {v : Value} {xs : List Value} (h : w.ownsRow base e size v n xs) (hb : base' ≤ base) : w.ownsRow base' e size v n xs :=
  ⟨h.1, h.2.imp id fun ⟨g, cap, cur, h1, h2, h3⟩ => ⟨g, cap, cur, h1, Nat.le_trans hb h2, h3⟩⟩
theorem far3 {W : World} {b B : Nat} (h : b ≠ B) (o : Nat) (x y z : Value) : (((W.setCell ⟨B, 0, none⟩ x).setCell ⟨B, 1, none⟩ y).setCell ⟨B, 2, none⟩ z).cell? ⟨b, o, none⟩ = W.cell? ⟨b, o, none⟩ := by
  rw [World.cell?_setCell_far _ _ _ _ (by simpa using Ne.symm h), World.cell?_setCell_far _ _ _ _ (by simpa using Ne.symm h), World.cell?_setCell_far _ _ _ _ (by simpa using Ne.symm h)]
end
end Go
