/- Plain words of the still: tests and numbers as functions of integers. Plain words: slices of numbers and of spans in memory; curves. Plain words: the place of a number in a rising list; lines through points. Own laws: a class of worlds 'w grown by new blocks and draws'; regions that draw their order walked once in that class, with a tail of stores in forced order. Plain words: a curve in memory; the vapour of strengths. Plain words: a still in memory; what is drawn. Plain words: blocks that were laid one after another; cells of a block that is known whole. Plain words: runs of a still. Plain words: what stands between two rounds of a run. No conditions beyond each theorem's own. -/
import Derived.WalkKit
import Derived.WalkSpells
import Derived.WalkLawsBesides
import Derived.Deep.QuietTactic
import Derived.BigQuiet
import Derived.StillTail
import Derived.RangeFuncBox
import Derived.RangeFuncNested
set_option linter.unusedVariables false
set_option linter.unusedSimpArgs false
set_option linter.unusedSectionVars false
set_option linter.constructorNameAsVariable false
namespace Go.Proofs.Yticgkhoidgkejaa

/-- low ≤ n ≤ high -/
def inB (n low high : Int) : Bool := decide (low ≤ n) && decide (n ≤ high)
/-- a span within limits -/
def spanB (lo hi low high : Int) : Bool := decide (low ≤ lo) && (decide (lo ≤ hi) && decide (hi ≤ high))

theorem inB_t {n low high : Int} : inB n low high = true ↔ low ≤ n ∧ n ≤ high := by simp [inB]
theorem spanB_t {lo hi low high : Int} : spanB lo hi low high = true ↔ low ≤ lo ∧ lo ≤ hi ∧ hi ≤ high := by simp [spanB]
theorem inB_f {n low high : Int} : inB n low high = false ↔ ¬ (low ≤ n ∧ n ≤ high) := by rw [← inB_t]; simp
theorem spanB_f {lo hi low high : Int} : spanB lo hi low high = false ↔ ¬ (low ≤ lo ∧ lo ≤ hi ∧ hi ≤ high) := by rw [← spanB_t]; simp
/-- (a + b - 1) / b -/
def upI (a b : Int) : Int := (a + b - 1) / b
theorem upI_nonneg {a b : Int} (ha : 0 ≤ a) (hb : 1 ≤ b) : 0 ≤ upI a b := Int.ediv_nonneg (by omega) (by omega)
theorem upI_le {a b c : Int} (hb : 1 ≤ b) (h : a ≤ c * b) : upI a b ≤ c := by
  unfold upI
  have : a + b - 1 < (c + 1) * b := by rw [Int.add_mul]; omega
  have := Int.ediv_lt_of_lt_mul (by omega) this
  omega
theorem le_upI {a b : Int} (hb : 1 ≤ b) : a ≤ upI a b * b := by
  unfold upI
  have := Int.emod_add_mul_ediv (a + b - 1) b
  have h2 := Int.emod_lt_of_pos (a + b - 1) (show 0 < b by omega)
  rw [Int.mul_comm]; omega
end Go.Proofs.Yticgkhoidgkejaa

namespace Go.Proofs.Yticgkhoidgkejaa
open Go.RowKit

theorem all_succ {P : Nat → Prop} {k : Nat} (h : ∀ j, j < k → P j) (hk : P k) : ∀ j, j < k + 1 → P j := fun j hj => by
  rcases Nat.lt_or_eq_of_le (Nat.lt_succ_iff.1 hj) with h' | h'
  · exact h j h'
  · rw [h']; exact hk

/-- a slice's numbers -/
def IntsAt (w : World) (a : Option Addr) (n : Nat) (L : Nat → Int) : Prop :=
  n = 0 ∨ ∃ b off, a = some ⟨b, off, none⟩ ∧ b < w.heap.size ∧ ∀ i, i < n → w.cell? ⟨b, off + i, none⟩ = some (.int .i64 (L i))
/-- a slice's spans -/
def SpansAt (w : World) (a : Option Addr) (n : Nat) (A B : Nat → Int) : Prop :=
  n = 0 ∨ ∃ b off, a = some ⟨b, off, none⟩ ∧ b < w.heap.size ∧ ∀ i, i < n → w.cell? ⟨b, off + i * 2, none⟩ = some (.int .i64 (A i)) ∧ w.cell? ⟨b, off + i * 2 + 1, none⟩ = some (.int .i64 (B i))

theorem IntsAt.below {w w' : World} {a : Option Addr} {n : Nat} {L : Nat → Int} (h : IntsAt w a n L) (hb : Below w.heap.size w w') : IntsAt w' a n L := by
  rcases h with h | ⟨b, off, rfl, hlt, hc⟩
  · exact .inl h
  · exact .inr ⟨b, off, rfl, Nat.lt_of_lt_of_le hlt hb.size, fun i hi => (hb.cell (p := ⟨b, off + i, none⟩) hlt).trans (hc i hi)⟩
theorem SpansAt.below {w w' : World} {a : Option Addr} {n : Nat} {A B : Nat → Int} (h : SpansAt w a n A B) (hb : Below w.heap.size w w') : SpansAt w' a n A B := by
  rcases h with h | ⟨b, off, rfl, hlt, hc⟩
  · exact .inl h
  · exact .inr ⟨b, off, rfl, Nat.lt_of_lt_of_le hlt hb.size, fun i hi => ⟨(hb.cell (p := ⟨b, off + i * 2, none⟩) hlt).trans (hc i hi).1, (hb.cell (p := ⟨b, off + i * 2 + 1, none⟩) hlt).trans (hc i hi).2⟩⟩

def headB (n m : Nat) (L A : Nat → Int) : Bool := inB n 2 32 && (decide (m = n) && (decide (L 0 = 0) && (decide (L (n - 1) = 10000) && decide (A 0 = 0))))
def stepB (L A B : Nat → Int) (i : Nat) : Bool := decide (L i ≤ L (i - 1)) || (decide (A i < A (i - 1)) || decide (B i < B (i - 1)))
def okB (L A B : Nat → Int) (i : Nat) : Bool := spanB (A i) (B i) (L i) 10000 && (decide (i = 0) || !stepB L A B i)
def curveB (n m : Nat) (L A B : Nat → Int) : Bool := headB n m L A && (List.range n).all (okB L A B)

theorem curveB_all {n m : Nat} {L A B : Nat → Int} (h : headB n m L A = true) (k : ∀ i, i < n → okB L A B i = true) : curveB n m L A B = true := by
  simp only [curveB, h, Bool.true_and, List.all_eq_true, List.mem_range]; exact k
theorem curveB_not {n m : Nat} {L A B : Nat → Int} {i : Nat} (hi : i < n) (k : okB L A B i = false) : curveB n m L A B = false := by
  have : (List.range n).all (okB L A B) = false := by
    rw [List.all_eq_false]; exact ⟨i, List.mem_range.2 hi, by simp [k]⟩
  simp [curveB, this]
theorem okB_span {L A B : Nat → Int} {i : Nat} (h : spanB (A i) (B i) (L i) 10000 = false) : okB L A B i = false := by simp [okB, h]
theorem okB_step {L A B : Nat → Int} {i : Nat} (hi : 0 < i) (h : stepB L A B i = true) : okB L A B i = false := by
  have : ¬ i = 0 := by omega
  simp [okB, h, this]
theorem okB_zero {L A B : Nat → Int} {i : Nat} (hi : i = 0) (h : spanB (A i) (B i) (L i) 10000 = true) : okB L A B i = true := by subst hi; simp [okB, h]
theorem okB_good {L A B : Nat → Int} {i : Nat} (h : spanB (A i) (B i) (L i) 10000 = true) (h2 : stepB L A B i = false) : okB L A B i = true := by simp [okB, h, h2]
end Go.Proofs.Yticgkhoidgkejaa

namespace Go.Proofs.Yticgkhoidgkejaa

/-- how many of the first numbers are below x, up to the first that is not -/
def lb (L : Nat → Int) (x : Int) : Nat → Nat
  | 0 => 0
  | n + 1 => if lb L x n = n ∧ L n < x then n + 1 else lb L x n

theorem lb_le (L : Nat → Int) (x : Int) : ∀ n, lb L x n ≤ n
  | 0 => Nat.le_refl _
  | n + 1 => by unfold lb; have := lb_le L x n; split <;> omega
theorem lb_lt (L : Nat → Int) (x : Int) : ∀ n t, t < lb L x n → L t < x
  | 0, t, h => by simp [lb] at h
  | n + 1, t, h => by
    unfold lb at h
    split at h
    · rename_i hc
      by_cases e : t = n
      · rw [e]; exact hc.2
      · exact lb_lt L x n t (by rw [hc.1]; omega)
    · exact lb_lt L x n t h
theorem lb_stop (L : Nat → Int) (x : Int) : ∀ n, lb L x n < n → ¬ L (lb L x n) < x
  | 0, h => by simp at h
  | n + 1, h => by
    unfold lb at h ⊢
    split
    · rename_i hc; simp only [hc, and_self, if_true] at h; omega
    · rename_i hc
      simp only [hc, if_false] at h
      by_cases e : lb L x n = n
      · rw [e]; exact fun hx => hc ⟨e, hx⟩
      · exact lb_stop L x n (by have := lb_le L x n; omega)
theorem lb_unique {L : Nat → Int} {x : Int} {n i : Nat} (hi : i ≤ n) (h1 : ∀ t, t < i → L t < x) (h2 : i < n → ¬ L i < x) : i = lb L x n := by
  have a := lb_le L x n
  rcases Nat.lt_trichotomy i (lb L x n) with h | h | h
  · exact absurd (lb_lt L x n i h) (h2 (by omega))
  · exact h
  · exact absurd (h1 _ h) (lb_stop L x n (by omega))

/-- whether x is there -/
def foundB (L : Nat → Int) (x : Int) (n : Nat) : Bool := decide (lb L x n < n) && decide (L (lb L x n) = x)

/-- a valid curve -/
structure Good (n : Nat) (L A B : Nat → Int) : Prop where
  two : 2 ≤ n
  most : n ≤ 32
  zero : L 0 = 0
  last : L (n - 1) = 10000
  low : A 0 = 0
  inc : ∀ i, i + 1 < n → L i < L (i + 1)
  incA : ∀ i, i + 1 < n → A i ≤ A (i + 1)
  incB : ∀ i, i + 1 < n → B i ≤ B (i + 1)
  span : ∀ i, i < n → L i ≤ A i ∧ A i ≤ B i ∧ B i ≤ 10000

theorem good_of {n m : Nat} {L A B : Nat → Int} (h : curveB n m L A B = true) : m = n ∧ Good n L A B := by
  simp only [curveB, headB, Bool.and_eq_true, decide_eq_true_eq, List.all_eq_true, List.mem_range] at h
  obtain ⟨⟨h1, h2, h3, h4, h5⟩, h6⟩ := h
  have hr := inB_t.1 h1
  have key : ∀ i, i < n → spanB (A i) (B i) (L i) 10000 = true ∧ (i = 0 ∨ (L (i - 1) < L i ∧ A (i - 1) ≤ A i ∧ B (i - 1) ≤ B i)) := fun i hi => by
    have := h6 i hi
    simp only [okB, stepB, Bool.and_eq_true, Bool.or_eq_true, decide_eq_true_eq, Bool.not_eq_true', Bool.or_eq_false_iff, decide_eq_false_iff_not] at this
    refine ⟨this.1, this.2.imp id fun h => by omega⟩
  refine ⟨h2, by omega, by omega, h3, h4, h5, fun i hi => ?_, fun i hi => ?_, fun i hi => ?_, fun i hi => spanB_t.1 (key i hi).1⟩
  all_goals
    have := (key (i + 1) hi).2
    simp only [Nat.add_sub_cancel] at this
    omega

theorem mono_of {n : Nat} {L : Nat → Int} (h : ∀ i, i + 1 < n → L i ≤ L (i + 1)) : ∀ s t, s ≤ t → t < n → L s ≤ L t := fun s t hst => by
  induction t with
  | zero => intro _; rw [Nat.le_zero.1 hst]; exact Int.le_refl _
  | succ t ih =>
    intro ht
    rcases Nat.lt_or_eq_of_le hst with h' | h'
    · exact Int.le_trans (ih (by omega) (by omega)) (h t ht)
    · rw [h']; exact Int.le_refl _

theorem Good.mono {n : Nat} {L A B : Nat → Int} (g : Good n L A B) : ∀ s t, s ≤ t → t < n → L s ≤ L t := mono_of fun i hi => Int.le_of_lt (g.inc i hi)
theorem Good.monoA {n : Nat} {L A B : Nat → Int} (g : Good n L A B) : ∀ s t, s ≤ t → t < n → A s ≤ A t := mono_of g.incA
theorem Good.monoB {n : Nat} {L A B : Nat → Int} (g : Good n L A B) : ∀ s t, s ≤ t → t < n → B s ≤ B t := mono_of g.incB
theorem Good.range {n : Nat} {L A B : Nat → Int} (g : Good n L A B) (i : Nat) (hi : i < n) : 0 ≤ L i ∧ L i ≤ 10000 ∧ 0 ≤ A i ∧ A i ≤ 10000 ∧ 0 ≤ B i ∧ B i ≤ 10000 := by
  have h1 := g.mono 0 i (Nat.zero_le _) hi
  have h2 := g.mono i (n - 1) (by omega) (by omega)
  have h3 := g.span i hi
  rw [g.zero] at h1; rw [g.last] at h2
  omega

/-- the first one of the two points between which x lies -/
def segI (L : Nat → Int) (n : Nat) (x : Int) : Nat := min (if foundB L x n then lb L x n else lb L x n - 1) (n - 2)
def lineDen (L : Nat → Int) (n : Nat) (x : Int) : Int := L (segI L n x + 1) - L (segI L n x)
def lineNum (L E : Nat → Int) (n : Nat) (x : Int) : Int :=
  E (segI L n x) * lineDen L n x + (E (segI L n x + 1) - E (segI L n x)) * (x - L (segI L n x))

theorem Good.found_le {n : Nat} {L A B : Nat → Int} (_ : Good n L A B) {x : Int} (h : foundB L x n = true) : lb L x n < n ∧ L (lb L x n) = x := by simpa [foundB] using h
theorem Good.lost {n : Nat} {L A B : Nat → Int} (g : Good n L A B) {x : Int} (h0 : 0 ≤ x) (h1 : x ≤ 10000) (h : foundB L x n = false) : 1 ≤ lb L x n ∧ lb L x n ≤ n - 1 ∧ L (lb L x n - 1) < x ∧ x < L (lb L x n) := by
  have a := lb_le L x n
  have t := g.two
  have hl : lb L x n < n := by
    rcases Nat.lt_or_ge (lb L x n) n with h' | h'
    · exact h'
    · have := lb_lt L x n (n - 1) (by omega)
      rw [g.last] at this; omega
  have hs := lb_stop L x n hl
  have hne : ¬ L (lb L x n) = x := by intro e; simp [foundB, hl, e] at h
  have h1' : 1 ≤ lb L x n := by
    rcases Nat.eq_zero_or_pos (lb L x n) with e | e
    · rw [e, g.zero] at hs hne; omega
    · exact e
  exact ⟨h1', by omega, lb_lt L x n _ (by omega), by omega⟩

/-- the point's index, and that x lies there -/
theorem Good.seg {n : Nat} {L A B : Nat → Int} (g : Good n L A B) {x : Int} (h0 : 0 ≤ x) (h1 : x ≤ 10000) : segI L n x + 1 < n ∧ L (segI L n x) ≤ x ∧ x ≤ L (segI L n x + 1) := by
  have t := g.two
  cases h : foundB L x n with
  | true =>
    obtain ⟨a, b⟩ := g.found_le h
    unfold segI; simp only [h, if_true]
    by_cases c : lb L x n ≤ n - 2
    · rw [Nat.min_eq_left c]
      have := g.mono (lb L x n) (lb L x n + 1) (by omega) (by omega)
      exact ⟨by omega, by omega, by omega⟩
    · rw [Nat.min_eq_right (by omega)]
      have e : lb L x n = n - 2 + 1 := by omega
      have := g.mono (n - 2) (n - 2 + 1) (by omega) (by omega)
      rw [e] at b
      exact ⟨by omega, by omega, by omega⟩
  | false =>
    obtain ⟨a, b, c, d⟩ := g.lost h0 h1 h
    unfold segI
    rw [if_neg (by rw [h]; simp), Nat.min_eq_left (by omega)]
    have e : lb L x n - 1 + 1 = lb L x n := by omega
    rw [e]
    exact ⟨by omega, by omega, by omega⟩
end Go.Proofs.Yticgkhoidgkejaa

namespace Go
open Go.RowKit

/-- min, max of Go's builtins, under names that the walk does not open -/
def minZ (x y : Int) : Int := if y < x then y else x
def maxZ (x y : Int) : Int := if y > x then y else x
def minZ3 (x y z : Int) : Int := minZ (minZ x y) z
def maxZ3 (x y z : Int) : Int := maxZ (maxZ x y) z
theorem minZ_eq (x y : Int) : minZ x y = min x y := by unfold minZ; split <;> omega
theorem maxZ_eq (x y : Int) : maxZ x y = max x y := by unfold maxZ; split <;> omega
theorem minZ3_eq (x y z : Int) : minZ3 x y z = min x (min y z) := by unfold minZ3; rw [minZ_eq, minZ_eq]; omega
theorem maxZ3_eq (x y z : Int) : maxZ3 x y z = max x (max y z) := by unfold maxZ3; rw [maxZ_eq, maxZ_eq]; omega
section
variable {P : Program} (w : World)
theorem run_minZ (ts : Array TypeId) (t : TypeId) (k k' : IntKind) (x y : Int) : (Builtin.min_ ts t #[.int k x, .int k' y]).run P w = .ok (.int k (minZ x y)) w := run_min_int2 w ts t k k' x y
theorem run_maxZ (ts : Array TypeId) (t : TypeId) (k k' : IntKind) (x y : Int) : (Builtin.max_ ts t #[.int k x, .int k' y]).run P w = .ok (.int k (maxZ x y)) w := run_max_int2 w ts t k k' x y
theorem run_minZ3 (ts : Array TypeId) (t : TypeId) (k k' k'' : IntKind) (x y z : Int) : (Builtin.min_ ts t #[.int k x, .int k' y, .int k'' z]).run P w = .ok (.int k (minZ3 x y z)) w := run_min_int3 w ts t k k' k'' x y z
theorem run_maxZ3 (ts : Array TypeId) (t : TypeId) (k k' k'' : IntKind) (x y z : Int) : (Builtin.max_ ts t #[.int k x, .int k' y, .int k'' z]).run P w = .ok (.int k (maxZ3 x y z)) w := run_max_int3 w ts t k k' k'' x y z
end

/-- What has been added: blocks, draws. -/
structure Grew where
  bs : Array Obj
  d : Nat
instance : Nonempty Grew := ⟨⟨#[], 0⟩⟩

/-- w with blocks x.bs more and x.d draws in all. -/
def gw (w : World) (x : Grew) : World := { w with heap := w.heap ++ x.bs, drawn := x.d }

theorem gw_size (w : World) (x : Grew) : (gw w x).heap.size = w.heap.size + x.bs.size := by simp [gw]

theorem gw_block (w : World) (x : Grew) (k : Nat) (h : k < w.heap.size) : (gw w x).heap[k]? = w.heap[k]? := by
  simp [gw, Array.getElem?_append, h]

theorem gw_cell {w : World} {x : Grew} {p : Addr} (h : p.block < w.heap.size) : (gw w x).cell? p = w.cell? p :=
  World.cell?_of_block (w := w) (gw_block w x p.block h)
theorem gw_frozen {w : World} {x : Grew} {p : Addr} (h : p.block < w.heap.size) : (gw w x).frozen? p = w.frozen? p :=
  World.frozen?_of_block (w := w) (gw_block w x p.block h)

theorem below_gw (w : World) (x : Grew) : Below w.heap.size w (gw w x) :=
  ⟨rfl, rfl, rfl, by simp [gw], fun k hk => gw_block w x k hk⟩

theorem RowKit.Below.gw {w W : World} (h : Below w.heap.size w W) (x : Grew) : Below w.heap.size w (Go.gw W x) := h.trans ((below_gw W x).mono h.size)

theorem gw_of_below {w w' : World} (h : Below w.heap.size w w') : ∃ x, w' = gw w x := by
  refine ⟨⟨w'.heap.extract w.heap.size w'.heap.size, w'.drawn⟩, ?_⟩
  have hh : w'.heap = w.heap ++ w'.heap.extract w.heap.size w'.heap.size := by
    apply Array.ext_getElem?
    intro k
    rw [Array.getElem?_append]
    split
    · rename_i hk; exact h.block k hk
    · rename_i hk
      rw [Array.getElem?_extract]
      split
      · rw [show w.heap.size + (k - w.heap.size) = k by omega]
      · rename_i hk2
        have := h.size
        exact Array.getElem?_eq_none (by omega)
  obtain ⟨hp, tp, dr, o, ou⟩ := w'
  have h1 := h.os; have h2 := h.tape; have h3 := h.output
  simp only at h1 h2 h3 hh
  subst h1 h2 h3
  simp only [gw]
  congr 1

theorem gw_drew (w : World) (x : Grew) : (gw w x).drew = gw w ⟨x.bs, x.d + 1⟩ := rfl

/-- A contract of a function that makes memory and writes nothing that was there, in the class of the world in which a region began. -/
theorem Calls.gw_of {P : Program} {f : FuncId} {args : Array Value} {w : World} {x : Grew} {v : Value}
    (h : Calls P f args (gw w x) fun e w' => e = .returned v ∧ Below (gw w x).heap.size (gw w x) w') :
    Calls P f args (gw w x) fun e w'' => e = .returned v ∧ ∃ x', w'' = gw w x' :=
  h.mono fun _ _ ⟨he, hb⟩ => ⟨he, gw_of_below ((below_gw w x).trans (hb.mono (by simp [gw])))⟩

theorem Calls.gw_of_same {P : Program} {f : FuncId} {args : Array Value} {w : World} {x : Grew} {v : Value}
    (h : Calls P f args (gw w x) fun e w' => e = .returned v ∧ gw w x = w') :
    Calls P f args (gw w x) fun e w'' => e = .returned v ∧ ∃ x', w'' = gw w x' :=
  h.mono fun _ _ ⟨he, hb⟩ => ⟨he, x, hb.symm⟩

/-- At a call outside such a region. -/
theorem Calls.grown {P : Program} {f : FuncId} {args : Array Value} {w : World} {v : Value}
    (h : Calls P f args w fun e w' => e = .returned v ∧ Below w.heap.size w w') :
    Calls P f args w fun e w'' => e = .returned v ∧ ∃ x, w'' = gw w x :=
  h.mono fun _ _ ⟨he, hb⟩ => ⟨he, gw_of_below hb⟩

section
variable {P : Program} {ops : Array Oper} {md : Region.Mode} {C : World → Prop}

theorem wp_region_gw {id : Nat} {Q : Exit → Act → World → Prop} {a : Act} {w : World} {l : List Oper} (hm : P.follows .mixedOrders = true) (hB : Region.lexB .any l.toArray = true)
    (h : wpQuiet P l.toArray (fun w' => ∃ x, w' = gw w x) (fun a' => ∀ w', (∃ x, w' = gw w x) → Q .normal a' w') l a) : (Code.region id l.toArray true).wp P Q a w :=
  wp_region_quiet (C := fun w' => ∃ x, w' = gw w x) hm hB ⟨⟨#[], w.drawn + 1⟩, by simp [gw]⟩ (by simpa using h)

/-- The same, begun in a grown world. -/
theorem wp_region_gw2 {id : Nat} {Q : Exit → Act → World → Prop} {a : Act} {w : World} {x : Grew} {l : List Oper} (hm : P.follows .mixedOrders = true) (hB : Region.lexB .any l.toArray = true)
    (h : wpQuiet P l.toArray (fun w' => ∃ x, w' = gw w x) (fun a' => ∀ w', (∃ x, w' = gw w x) → Q .normal a' w') l a) : (Code.region id l.toArray true).wp P Q a (gw w x) :=
  wp_region_quiet (C := fun w' => ∃ x, w' = gw w x) hm hB ⟨⟨x.bs, x.d + 1⟩, rfl⟩ (by simpa using h)

/-- The first 'f' operations that come up are among the first n and quiet in the class; then L. -/
def wpAnyT (P : Program) (md : Region.Mode) (ops : Array Oper) (C : World → Prop) (n : Nat) (L : Array Bool → Act → Prop) : Nat → Array Bool → Act → Prop
  | 0, listed, a => L listed a
  | f + 1, listed, a =>
    Region.ready md ops listed ≠ [] ∧ ∀ i ∈ Region.ready md ops listed, i < n ∧ qOp P ops C i (wpAnyT P md ops C n L f (listed.setIfInBounds i true)) a

theorem wpAny_of_headT {n g : Nat} {L : Array Bool → Act → Prop} {Q' : Exit → Act → World → Prop} (hL : ∀ listed a w, C w → L listed a → wpAny P md ops Q' g listed a w) :
    ∀ (f : Nat) (listed : Array Bool) (a : Act) (w : World), C w → wpAnyT P md ops C n L f listed a → wpAny P md ops Q' (f + g) listed a w
  | 0, listed, a, w, hC, h => by rw [Nat.zero_add]; exact hL _ _ _ hC h
  | f + 1, listed, a, w, hC, h => by
    rw [show f + 1 + g = (f + g) + 1 by omega]
    exact ⟨fun h0 => absurd h0 h.1, fun i hi => wpOp_of_qOp hC (fun a' w' hC' h' => wpAny_of_headT hL f _ a' w' hC' h') (h.2 i hi).2⟩

theorem wpAnyT_first {n i : Nat} {oi : Oper} {v : Value} {L : Array Bool → Act → Prop} (hi : ops[i]? = some oi) (hsel : ∀ (j : Nat) (o : Oper) cs b, ops[j]? = some o → o.op ≠ .select cs b)
    (hs : Region.sinkB md ops n = true) (hc : Region.chainB md ops n = true) (hn : n < ops.size) (hin : i < n)
    (hdone : ∀ listed a, L listed a → ∀ j ∈ Region.ready md ops listed, n ≤ j) :
    ∀ (f : Nat) (listed : Array Bool) (a : Act), HeadInv md ops n listed →
      (∀ j oj, ops[j]? = some oj → j ≠ i → listed.getD j true = false → (∀ e ∈ oj.after, Region.binds md e = true → e.on ≠ i) → oi.apart ops oj = true) →
      i ∈ Region.ready md ops listed → YieldsIn P ops C oi v a →
      wpAnyT P md ops C n L f (listed.setIfInBounds i true) (a.put oi.dst v) → wpAnyT P md ops C n L (f + 1) listed a := by
  intro f
  induction f with
  | zero =>
    intro listed a inv _ hr hy H
    have hun := (mem_ready.1 hr).1
    refine ⟨fun h => (by rw [h] at hr; cases hr), fun j hj => ?_⟩
    have hjn : j < n := by
      rcases Nat.lt_or_ge j n with h | h
      · exact h
      · exact absurd hj (tail_waits hs hc hn inv _ i rfl hin hun j h)
    refine ⟨hjn, ?_⟩
    by_cases hji : j = i
    · subst hji; exact hy.qOp hi H
    · have := hdone _ _ H j (ready_mono hj hji)
      omega
  | succ f ih =>
    intro listed a inv hfree hr hy H
    have hun := (mem_ready.1 hr).1
    refine ⟨fun h => (by rw [h] at hr; cases hr), fun j hj => ?_⟩
    have hjn : j < n := by
      rcases Nat.lt_or_ge j n with h | h
      · exact h
      · exact absurd hj (tail_waits hs hc hn inv _ i rfl hin hun j h)
    refine ⟨hjn, ?_⟩
    by_cases hji : j = i
    · subst hji; exact hy.qOp hi H
    · have h1 := (H.2 j (ready_mono hj hji)).2
      obtain ⟨hjun, oj, hoj, hall⟩ := mem_ready.1 hj
      have hnot : ∀ e ∈ oj.after, Region.binds md e = true → e.on ≠ i := fun e he hb heq => by
        have h1 := hall e he hb
        rw [heq, getD_both hun] at h1
        cases h1
      have h2 := qOp_put hoj (hfree j oj hoj hji hjun hnot) (fun cs b => hsel i oi cs b hi) (fun cs b => hsel j oj cs b hoj) hy h1
      have hfree' : ∀ k ok, ops[k]? = some ok → k ≠ i → (listed.setIfInBounds j true).getD k true = false →
          (∀ e ∈ ok.after, Region.binds md e = true → e.on ≠ i) → oi.apart ops ok = true := fun k ok hk hki hun hno => by
        refine hfree k ok hk hki ?_ hno
        by_cases hjk : j = k
        · subst hjk; exact hjun
        · rw [getD_set_ne true hjk] at hun; exact hun
      refine qOp_mono (fun a' h3 => ih (listed.setIfInBounds j true) a' (inv.set hj hjn) hfree' (ready_mono hr (Ne.symm hji)) h3.1 ?_) h2
      rw [Array.setIfInBounds_comm _ _ hji]
      exact h3.2

theorem wpAnyT_lex {n g : Nat} {Lq : Act → Prop} (hsel : Region.noSelect ops = true) (hs : Region.sinkB md ops n = true) (hc : Region.chainB md ops n = true) (hn : n < ops.size) :
    ∀ (l : List Oper) (k : Nat) (listed : Array Bool) (a : Act), (∀ j, j < l.length → l[j]? = ops[k + j]?) → k + l.length = n → HeadInv md ops n listed →
    Region.lexHead md ops g l.length k listed = true → wpQuiet P ops C Lq l a →
    wpAnyT P md ops C n (fun listed' a' => Region.seqB md ops g n listed' = true ∧ Lq a') l.length listed a
  | [], k, listed, a, _, hk, _, hB, h => by
    have : k = n := by simpa using hk
    subst this
    exact ⟨by simpa [Region.lexHead] using hB, h⟩
  | o :: l, k, listed, a, hl, hk, inv, hB, h => by
    have h0 : ops[k]? = some o := by simpa using (hl 0 (by simp)).symm
    simp only [List.length_cons, Region.lexHead, Bool.and_eq_true] at hB
    obtain ⟨⟨hr, hf⟩, hB'⟩ := hB
    have hkn : k < n := by simp only [List.length_cons] at hk; omega
    have hr' : k ∈ Region.ready md ops listed := by simpa using hr
    have hst : qOp P ops C k (wpQuiet P ops C Lq l) a := by unfold qOp; simp only [h0]; exact h
    obtain ⟨v, hy, hK⟩ := yieldsIn_of_qOp h0 hst
    exact wpAnyT_first h0 (Region.noSelect_spec hsel) hs hc hn hkn (fun listed' a' hL => seqB_ready hL.1) l.length listed a inv (Region.free_spec h0 hf) hr' hy
      (wpAnyT_lex hsel hs hc hn l (k + 1) _ _ (fun j hj => by have := hl (j + 1) (by simp; omega); simpa [Nat.add_assoc, Nat.add_comm 1 j] using this) (by simp only [List.length_cons] at hk; omega) (inv.set hr' hkn) hB' hK)

/-- A region whose first n operations are quiet in the class, and whose others come behind them in one forced order: walked once. -/
theorem wp_region_gw_tail {id : Nat} {Q : Exit → Act → World → Prop} {a : Act} {w : World} {l : List Oper} (n : Nat) (hm : P.follows .mixedOrders = true) (hB : Region.lexTailB .any l.toArray n = true)
    (h : wpQuiet P l.toArray (fun w' => ∃ x, w' = gw w x) (fun a' => ∀ w', (∃ x, w' = gw w x) → wpList P l.toArray Q (l.drop n) a' w') (l.take n) a) : (Code.region id l.toArray true).wp P Q a w := by
  simp only [Region.lexTailB, Bool.and_eq_true, decide_eq_true_eq] at hB
  obtain ⟨⟨⟨⟨hsel, hn⟩, hs⟩, hc⟩, hlex⟩ := hB
  have hn' : n < l.length := by simpa using hn
  have htl : (l.take n).length = n := by simp; omega
  have hdl : (l.drop n).length = l.toArray.size - n := by simp
  have inv0 : HeadInv .any l.toArray n (Array.replicate l.toArray.size false) :=
    ⟨by simp, fun j oj _ hl => (by rw [getD_replicate_false] at hl; cases hl), fun t _ ht => getD_in (by simpa using ht) (getD_replicate_false _ _)⟩
  have H := wpAnyT_lex (md := .any) (g := l.toArray.size - n) hsel hs hc hn (l.take n) 0 _ a (fun j hj => by
    have hj' : j < n := by rw [htl] at hj; exact hj
    simp [hj']) (by simpa using htl) inv0 (by rw [htl]; exact hlex) h
  refine wp_region_any hm ?_
  have := wpAny_of_headT (Q' := Q) (g := l.toArray.size - n) (fun listed a' w' hC hL => by
    have := wpAny_of_seq (md := .any) (Q' := Q) (l.drop n) n listed a' w' (fun j => by simp [List.getElem?_drop]) (by rw [hdl]; exact hL.1) (hL.2 w' hC)
    rwa [hdl] at this) _ _ _ { w with drawn := w.drawn + 1 } ⟨⟨#[], w.drawn + 1⟩, by simp [gw]⟩ H
  rw [htl, show n + (l.toArray.size - n) = l.toArray.size by omega] at this
  exact this
/-- A region whose first n operations are quiet in the class, and whose others come behind them in one forced order: walked once; begun in a grown world. -/
theorem wp_region_gw_tail2 {id : Nat} {Q : Exit → Act → World → Prop} {a : Act} {w : World} {x : Grew} {l : List Oper} (n : Nat) (hm : P.follows .mixedOrders = true) (hB : Region.lexTailB .any l.toArray n = true)
    (h : wpQuiet P l.toArray (fun w' => ∃ x, w' = gw w x) (fun a' => ∀ w', (∃ x, w' = gw w x) → wpList P l.toArray Q (l.drop n) a' w') (l.take n) a) : (Code.region id l.toArray true).wp P Q a (gw w x) := by
  simp only [Region.lexTailB, Bool.and_eq_true, decide_eq_true_eq] at hB
  obtain ⟨⟨⟨⟨hsel, hn⟩, hs⟩, hc⟩, hlex⟩ := hB
  have hn' : n < l.length := by simpa using hn
  have htl : (l.take n).length = n := by simp; omega
  have hdl : (l.drop n).length = l.toArray.size - n := by simp
  have inv0 : HeadInv .any l.toArray n (Array.replicate l.toArray.size false) :=
    ⟨by simp, fun j oj _ hl => (by rw [getD_replicate_false] at hl; cases hl), fun t _ ht => getD_in (by simpa using ht) (getD_replicate_false _ _)⟩
  have H := wpAnyT_lex (md := .any) (g := l.toArray.size - n) hsel hs hc hn (l.take n) 0 _ a (fun j hj => by
    have hj' : j < n := by rw [htl] at hj; exact hj
    simp [hj']) (by simpa using htl) inv0 (by rw [htl]; exact hlex) h
  refine wp_region_any hm ?_
  have := wpAny_of_headT (Q' := Q) (g := l.toArray.size - n) (fun listed a' w' hC hL => by
    have := wpAny_of_seq (md := .any) (Q' := Q) (l.drop n) n listed a' w' (fun j => by simp [List.getElem?_drop]) (by rw [hdl]; exact hL.1) (hL.2 w' hC)
    rwa [hdl] at this) _ _ _ { gw w x with drawn := (gw w x).drawn + 1 } ⟨⟨x.bs, x.d + 1⟩, rfl⟩ H
  rw [htl, show n + (l.toArray.size - n) = l.toArray.size by omega] at this
  exact this
end
end Go

namespace Go.Proofs.Yticgkhoidgkejaa
open Go.RowKit

/-- the points of a curve lie in memory -/
structure Pts (w : World) (b off bv offv n : Nat) (L A B : Nat → Int) : Prop where
  lb : b < w.heap.size
  vb : bv < w.heap.size
  ls : ∀ i, i < n → w.cell? ⟨b, off + i, none⟩ = some (.int .i64 (L i))
  vs : ∀ i, i < n → w.cell? ⟨bv, offv + i * 2, none⟩ = some (.int .i64 (A i)) ∧ w.cell? ⟨bv, offv + i * 2 + 1, none⟩ = some (.int .i64 (B i))

theorem Pts.below {w w' : World} {b off bv offv n : Nat} {L A B : Nat → Int} (h : Pts w b off bv offv n L A B) (hb : Below w.heap.size w w') : Pts w' b off bv offv n L A B :=
  ⟨Nat.lt_of_lt_of_le h.lb hb.size, Nat.lt_of_lt_of_le h.vb hb.size, fun i hi => (hb.cell (p := ⟨b, off + i, none⟩) h.lb).trans (h.ls i hi),
    fun i hi => ⟨(hb.cell (p := ⟨bv, offv + i * 2, none⟩) h.vb).trans (h.vs i hi).1, (hb.cell (p := ⟨bv, offv + i * 2 + 1, none⟩) h.vb).trans (h.vs i hi).2⟩⟩

/-- a curve's box -/
structure CurveAt (w : World) (bc b off bv offv n cL cV : Nat) (L A B : Nat → Int) : Prop where
  cb : bc < w.heap.size
  c0 : w.cell? ⟨bc, 0, none⟩ = some (.slice (some ⟨b, off, none⟩) n cL)
  c1 : w.cell? ⟨bc, 1, none⟩ = some (.slice (some ⟨bv, offv, none⟩) n cV)
  pts : Pts w b off bv offv n L A B

theorem CurveAt.below {w w' : World} {bc b off bv offv n cL cV : Nat} {L A B : Nat → Int} (h : CurveAt w bc b off bv offv n cL cV L A B) (hb : Below w.heap.size w w') : CurveAt w' bc b off bv offv n cL cV L A B :=
  ⟨Nat.lt_of_lt_of_le h.cb hb.size, (hb.cell (p := ⟨bc, 0, none⟩) h.cb).trans h.c0, (hb.cell (p := ⟨bc, 1, none⟩) h.cb).trans h.c1, h.pts.below hb⟩
theorem CurveAt.gw {w : World} {bc b off bv offv n cL cV : Nat} {L A B : Nat → Int} (h : CurveAt w bc b off bv offv n cL cV L A B) (x : Grew) : CurveAt (Go.gw w x) bc b off bv offv n cL cV L A B := h.below (below_gw w x)

theorem Good.den {n : Nat} {L A B : Nat → Int} (g : Good n L A B) {x : Int} (h0 : 0 ≤ x) (h1 : x ≤ 10000) : 1 ≤ lineDen L n x ∧ lineDen L n x ≤ 10000 := by
  obtain ⟨s1, s2, s3⟩ := g.seg h0 h1
  have i1 := g.inc _ s1
  have r1 := g.range _ s1
  have r0 := g.range (segI L n x) (by omega)
  unfold lineDen; omega

/-- a line's value times its denominator, as a mean of two ends -/
theorem line_mean {e f d u : Int} : e * d + (f - e) * u = e * (d - u) + f * u := by
  rw [Int.mul_sub, Int.sub_mul]; omega

theorem lineNum_nonneg {n : Nat} {L A B E : Nat → Int} (g : Good n L A B) (hE : ∀ i, i < n → 0 ≤ E i ∧ E i ≤ 10000) {x : Int} (h0 : 0 ≤ x) (h1 : x ≤ 10000) : 0 ≤ lineNum L E n x ∧ lineNum L E n x ≤ 10000 * lineDen L n x := by
  obtain ⟨s1, s2, s3⟩ := g.seg h0 h1
  have e1 := hE _ s1
  have e0 := hE (segI L n x) (by omega)
  unfold lineNum
  rw [line_mean]
  have hd : 0 ≤ lineDen L n x - (x - L (segI L n x)) := by unfold lineDen; omega
  have hu : 0 ≤ x - L (segI L n x) := by omega
  have a1 := Int.mul_nonneg e0.1 hd
  have a2 := Int.mul_nonneg e1.1 hu
  have b1 : E (segI L n x) * (lineDen L n x - (x - L (segI L n x))) ≤ 10000 * (lineDen L n x - (x - L (segI L n x))) := Int.mul_le_mul_of_nonneg_right e0.2 hd
  have b2 : E (segI L n x + 1) * (x - L (segI L n x)) ≤ 10000 * (x - L (segI L n x)) := Int.mul_le_mul_of_nonneg_right e1.2 hu
  omega

def vapLo (L A : Nat → Int) (n : Nat) (x : Int) : Int := lineNum L A n x / lineDen L n x
def vapHi (L B : Nat → Int) (n : Nat) (x : Int) : Int := (lineNum L B n x + lineDen L n x - 1) / lineDen L n x

theorem Good.vapLo_range {n : Nat} {L A B : Nat → Int} (g : Good n L A B) {x : Int} (h0 : 0 ≤ x) (h1 : x ≤ 10000) : 0 ≤ vapLo L A n x ∧ vapLo L A n x ≤ 10000 := by
  have d := g.den h0 h1
  have m := lineNum_nonneg g (fun i hi => ⟨(g.range i hi).2.2.1, (g.range i hi).2.2.2.1⟩) h0 h1 (E := A)
  unfold vapLo
  exact ⟨Int.ediv_nonneg m.1 (by omega), by have := Int.ediv_le_ediv (show 0 < lineDen L n x by omega) m.2; rwa [Int.mul_ediv_cancel _ (by omega)] at this⟩
theorem Good.vapHi_range {n : Nat} {L A B : Nat → Int} (g : Good n L A B) {x : Int} (h0 : 0 ≤ x) (h1 : x ≤ 10000) : 0 ≤ vapHi L B n x ∧ vapHi L B n x ≤ 10000 := by
  have d := g.den h0 h1
  have m := lineNum_nonneg g (fun i hi => ⟨(g.range i hi).2.2.2.2.1, (g.range i hi).2.2.2.2.2⟩) h0 h1 (E := B)
  unfold vapHi
  refine ⟨Int.ediv_nonneg (by omega) (by omega), ?_⟩
  have h2 : lineNum L B n x + lineDen L n x - 1 < 10001 * lineDen L n x := by omega
  have := Int.ediv_lt_of_lt_mul (by omega) h2
  omega
end Go.Proofs.Yticgkhoidgkejaa

namespace Go.Proofs.Yticgkhoidgkejaa
open Go.RowKit

theorem block_set {w : World} {b : Nat} {c : Array Value} {t : TypeId} (k : Nat) (v : Value) (h : w.heap[b]? = some (.cells c t (0, 0))) : (w.setCell ⟨b, k, none⟩ v).heap[b]? = some (.cells (c.setIfInBounds k v) t (0, 0)) := by
  obtain ⟨hlt, hk⟩ := Array.getElem?_eq_some_iff.1 h
  show (w.heap.modify b _)[b]? = _
  rw [Array.getElem?_eq_getElem (by rw [Array.size_modify]; exact hlt), Array.getElem_modify_self, hk]
  rfl

/-- a still's block -/
def StillBox (w : World) (bs : Nat) (v lo hi : Int) (bc : Nat) : Prop :=
  w.heap[bs]? = some (.cells #[.int .i64 v, .int .i64 lo, .int .i64 hi, .pointer (some ⟨bc, 0, none⟩)] 66 (0, 0))

section
variable {w w' : World} {bs bc : Nat} {v lo hi : Int}
theorem StillBox.lt (h : StillBox w bs v lo hi bc) : bs < w.heap.size := (Array.getElem?_eq_some_iff.1 h).1
theorem StillBox.c0 (h : StillBox w bs v lo hi bc) : w.cell? ⟨bs, 0, none⟩ = some (.int .i64 v) := by simp [World.cell?, show w.heap[bs]? = _ from h]
theorem StillBox.c1 (h : StillBox w bs v lo hi bc) : w.cell? ⟨bs, 1, none⟩ = some (.int .i64 lo) := by simp [World.cell?, show w.heap[bs]? = _ from h]
theorem StillBox.c2 (h : StillBox w bs v lo hi bc) : w.cell? ⟨bs, 2, none⟩ = some (.int .i64 hi) := by simp [World.cell?, show w.heap[bs]? = _ from h]
theorem StillBox.c3 (h : StillBox w bs v lo hi bc) : w.cell? ⟨bs, 3, none⟩ = some (.pointer (some ⟨bc, 0, none⟩)) := by simp [World.cell?, show w.heap[bs]? = _ from h]
theorem StillBox.fr (h : StillBox w bs v lo hi bc) (k : Nat) : w.frozen? ⟨bs, k, none⟩ = false := by simp [World.frozen?, show w.heap[bs]? = _ from h]
theorem StillBox.below (h : StillBox w bs v lo hi bc) (hb : Below w.heap.size w w') : StillBox w' bs v lo hi bc := (hb.block bs h.lt).trans h
theorem StillBox.set (h : StillBox w bs v lo hi bc) (v' lo' hi' : Int) :
    StillBox (((w.setCell ⟨bs, 0, none⟩ (.int .i64 v')).setCell ⟨bs, 1, none⟩ (.int .i64 lo')).setCell ⟨bs, 2, none⟩ (.int .i64 hi')) bs v' lo' hi' bc :=
  block_set 2 _ (block_set 1 _ (block_set 0 _ h))
end

theorem grownBy_set (W : World) (b k : Nat) (v : Value) : W.grownBy (W.setCell ⟨b, k, none⟩ v) (some b) :=
  ⟨rfl, rfl, rfl, (KeepsWalks.setCell W _ v).size, fun j _ hj => Below.heap_setCell _ _ _ j (fun e => hj (by rw [e]))⟩
theorem grownBy_of_below {w w' : World} (h : Below w.heap.size w w') (row : Option Nat) : w.grownBy w' row := ⟨h.os, h.tape, h.output, h.size, fun k hk _ => h.block k hk⟩
theorem grownBy_trans {a b c : World} {row : Option Nat} (h : a.grownBy b row) (k : b.grownBy c row) : a.grownBy c row :=
  ⟨k.os.trans h.os, k.tape.trans h.tape, k.output.trans h.output, Nat.le_trans h.size k.size, fun j hj hr => (k.block j (Nat.lt_of_lt_of_le hj h.size) hr).trans (h.block j hj hr)⟩

def mostI (L B : Nat → Int) (n : Nat) (v hi d : Int) : Int := min hi (upI (d * vapHi L B n (upI (hi * 10000) v)) 10000)
def staysI (lo mo : Int) : Int := max 0 (lo - mo)
def weakI (lo v st lf : Int) : Int := min (lo * 10000 / v) (if lf = 0 then 0 else st * 10000 / lf)
def leastI (L A : Nat → Int) (n : Nat) (lo lf d wk : Int) : Int := max (lo - lf) (d * vapLo L A n wk / 10000)
def highI (hi ls lf v : Int) : Int := min (hi - ls) (min lf (upI (hi * lf) v))

end Go.Proofs.Yticgkhoidgkejaa

namespace Go.Proofs.Yticgkhoidgkejaa
open Go.RowKit

theorem five_blocks (w : World) (o1 o2 o3 o4 o5 : Obj) :
    (((((w.alloc o1).alloc o2).alloc o3).alloc o4).alloc o5).heap.size = w.heap.size + 5 ∧
    (((((w.alloc o1).alloc o2).alloc o3).alloc o4).alloc o5).heap[w.heap.size]? = some o1 ∧
    (((((w.alloc o1).alloc o2).alloc o3).alloc o4).alloc o5).heap[w.heap.size + 1]? = some o2 ∧
    (((((w.alloc o1).alloc o2).alloc o3).alloc o4).alloc o5).heap[w.heap.size + 2]? = some o3 ∧
    (((((w.alloc o1).alloc o2).alloc o3).alloc o4).alloc o5).heap[w.heap.size + 3]? = some o4 ∧
    (((((w.alloc o1).alloc o2).alloc o3).alloc o4).alloc o5).heap[w.heap.size + 4]? = some o5 := by
  have e : (((((w.alloc o1).alloc o2).alloc o3).alloc o4).alloc o5).heap = ((((w.heap.push o1).push o2).push o3).push o4).push o5 := rfl
  rw [e]
  have pn : ∀ (h : Array Obj) (o : Obj) (k : Nat), k ≠ h.size → (h.push o)[k]? = h[k]? := fun h o k hk => by rw [Array.getElem?_push, if_neg hk]
  have pe : ∀ (h : Array Obj) (o : Obj) (k : Nat), k = h.size → (h.push o)[k]? = some o := fun h o k hk => by rw [Array.getElem?_push, if_pos hk]
  have s1 : (w.heap.push o1).size = w.heap.size + 1 := by simp
  have s2 : ((w.heap.push o1).push o2).size = w.heap.size + 2 := by simp
  have s3 : (((w.heap.push o1).push o2).push o3).size = w.heap.size + 3 := by simp
  have s4 : ((((w.heap.push o1).push o2).push o3).push o4).size = w.heap.size + 4 := by simp
  refine ⟨by simp, ?_, ?_, ?_, ?_, ?_⟩
  · rw [pn _ _ _ (by omega), pn _ _ _ (by omega), pn _ _ _ (by omega), pn _ _ _ (by omega), pe _ _ _ rfl]
  · rw [pn _ _ _ (by omega), pn _ _ _ (by omega), pn _ _ _ (by omega), pe _ _ _ (by omega)]
  · rw [pn _ _ _ (by omega), pn _ _ _ (by omega), pe _ _ _ (by omega)]
  · rw [pn _ _ _ (by omega), pe _ _ _ (by omega)]
  · rw [pe _ _ _ (by omega)]

theorem cell_of_block {w : World} {b : Nat} {c : Array Value} {t : TypeId} (h : w.heap[b]? = some (.cells c t (0, 0))) (k : Nat) (hk : k < c.size) : w.cell? ⟨b, k, none⟩ = some c[k] := by
  simp [World.cell?, h, hk]
theorem frozen_of_block {w : World} {b : Nat} {c : Array Value} {t : TypeId} (h : w.heap[b]? = some (.cells c t (0, 0))) (k : Nat) : w.frozen? ⟨b, k, none⟩ = false := by
  simp [World.frozen?, h]
end Go.Proofs.Yticgkhoidgkejaa

namespace Go.Proofs.Yticgkhoidgkejaa
open Go.RowKit

structure Crv where
  n : Nat
  L : Nat → Int
  A : Nat → Int
  B : Nat → Int
structure Pot3 where
  v : Int
  lo : Int
  hi : Int
structure Dr3 where
  d : Int
  lo : Int
  hi : Int

def Pot3.ok (p : Pot3) : Prop := 0 ≤ p.lo ∧ p.lo ≤ p.hi ∧ p.hi ≤ p.v ∧ p.v ≤ 1073741824
def Crv.most (c : Crv) (p : Pot3) (d : Int) : Int := min p.hi (upI (d * vapHi c.L c.B c.n (upI (p.hi * 10000) p.v)) 10000)
def Crv.stays (c : Crv) (p : Pot3) (d : Int) : Int := max 0 (p.lo - c.most p d)
def Crv.weak (c : Crv) (p : Pot3) (d : Int) : Int := min (p.lo * 10000 / p.v) (if p.v - d = 0 then 0 else c.stays p d * 10000 / (p.v - d))
def Crv.least (c : Crv) (p : Pot3) (d : Int) : Int := max (p.lo - (p.v - d)) (d * vapLo c.L c.A c.n (c.weak p d) / 10000)
def Crv.high (c : Crv) (p : Pot3) (d : Int) : Int := min (p.hi - c.least p d) (min (p.v - d) (upI (p.hi * (p.v - d)) p.v))
def Crv.out (c : Crv) (p : Pot3) (d : Int) : Dr3 := ⟨d, c.least p d, c.most p d⟩
def Crv.next (c : Crv) (p : Pot3) (d : Int) : Pot3 := ⟨p.v - d, c.stays p d, c.high p d⟩
/-- why an amount cannot be drawn; 0: it can -/
def errD (p : Pot3) (d : Int) : Int := if inB d 1 1073741824 then (if d ≤ p.v then 0 else 10) else 2

/-- the pot before amount j -/
def Crv.potAt (c : Crv) (p : Pot3) (M : Nat → Int) : Nat → Pot3
  | 0 => p
  | j + 1 => c.next (c.potAt p M j) (M j)
def Crv.outAt (c : Crv) (p : Pot3) (M : Nat → Int) (j : Nat) : Dr3 := c.out (c.potAt p M j) (M j)
def Crv.errAt (c : Crv) (p : Pot3) (M : Nat → Int) (j : Nat) : Int := errD (c.potAt p M j) (M j)

def Dr3.val (x : Dr3) : Value := .agg #[.int .i64 x.d, .int .i64 x.lo, .int .i64 x.hi]

theorem errD_zero {p : Pot3} {d : Int} (h : errD p d = 0) : inB d 1 1073741824 = true ∧ d ≤ p.v := by
  unfold errD at h
  split at h
  · rename_i h1
    split at h
    · rename_i h2; exact ⟨h1, h2⟩
    · omega
  · omega
theorem errD_cases (p : Pot3) (d : Int) : errD p d = 0 ∨ (errD p d = 2 ∧ inB d 1 1073741824 = false) ∨ (errD p d = 10 ∧ inB d 1 1073741824 = true ∧ p.v < d) := by
  unfold errD
  split
  · rename_i h1
    split
    · exact .inl rfl
    · rename_i h2; exact .inr (.inr ⟨rfl, h1, by omega⟩)
  · rename_i h1; exact .inr (.inl ⟨rfl, by simpa using h1⟩)

/-- a curve's box, and the points -/
def Crv.at (c : Crv) (w : World) (bc b off bv offv cL cV : Nat) : Prop := CurveAt w bc b off bv offv c.n cL cV c.L c.A c.B
end Go.Proofs.Yticgkhoidgkejaa

namespace Go.Proofs.Yticgkhoidgkejaa
open Go.RowKit

/-- a row's block is no block of another make -/
theorem far_row {W : World} {base size k : Nat} {e : TypeId} {v : Value} {xs : List Value} (hr : W.ownsRow base e size v k xs) {B : Nat} {o : Obj} (h : W.heap[B]? = some o) (ho : ∀ cur, o ≠ .cells cur e (0, 0)) : some B ≠ v.ownBlock := by
  rcases hr.2 with ⟨rfl, _⟩ | ⟨g, cap, cur, rfl, _, hgb, _⟩
  · simp [Value.ownBlock]
  · intro e'
    obtain rfl : B = g := by simpa [Value.ownBlock] using e'
    exact ho cur (Option.some.inj (h.symm.trans hgb))
theorem row_low {W : World} {base size k : Nat} {e : TypeId} {v : Value} {xs : List Value} (hr : W.ownsRow base e size v k xs) {B : Nat} (h : B < base) : some B ≠ v.ownBlock := by
  rcases hr.2 with ⟨rfl, _⟩ | ⟨g, cap, cur, rfl, hg, _, _⟩
  · simp [Value.ownBlock]
  · intro e'
    obtain rfl : B = g := by simpa [Value.ownBlock] using e'
    omega

def Dr3.cells (x : Dr3) : List Value := [.int .i64 x.d, .int .i64 x.lo, .int .i64 x.hi]
def Crv.outs (c : Crv) (p : Pot3) (M : Nat → Int) (j : Nat) : List Value := (List.range j).flatMap fun i => (c.outAt p M i).cells
theorem Crv.outs_succ (c : Crv) (p : Pot3) (M : Nat → Int) (j : Nat) : c.outs p M (j + 1) = c.outs p M j ++ (c.outAt p M j).cells := by
  simp [Crv.outs, List.range_succ]
theorem Crv.outs_length (c : Crv) (p : Pot3) (M : Nat → Int) : ∀ j, (c.outs p M j).length = j * 3
  | 0 => rfl
  | j + 1 => by rw [c.outs_succ, List.length_append, c.outs_length p M j]; simp [Dr3.cells]; omega

/-- between two rounds: N: the heap's size when the call began; S: the still's block; D: the block for deferred calls -/
structure Between (c : Crv) (p : Pot3) (M : Nat → Int) (w : World) (cb ab pb : Array Value) (S D : Nat) (rec : Loop) (j : Nat) (W : World) : Prop where
  row : ∃ vl, Boxed W (w.heap.size + 2) 51 vl ∧ W.ownsRow w.heap.size 36 3 vl j (c.outs p M j) ∧ vl.ownBlock ≠ some S
  err : Boxed W (w.heap.size + 4) 32 (.int .i64 0)
  fin : W.heap[w.heap.size + 3]? = some (.cells #[.int .i64 0, .int .i64 0, .int .i64 0] 29 (0, 0))
  cur : W.heap[w.heap.size]? = some (.cells cb 25 (0, 0))
  amt : W.heap[S + 2]? = some (.cells ab 22 (0, 0))
  ptr : W.heap[S + 1]? = some (.cells pb 76 (0, 0))
  loop : W.heap[D + 1]? = some (.loop rec)
  dfr : W.heap[D]? = some (.deferred (some []))
  low : Below w.heap.size w W

theorem Between.kept {c : Crv} {p : Pot3} {M : Nat → Int} {w : World} {cb ab pb : Array Value} {S D : Nat} {rec : Loop} {j : Nat} {W W' : World} (hS : w.heap.size + 5 ≤ S) (hD : S + 3 ≤ D)
    (h : Between c p M w cb ab pb S D rec j W) (hg : W.grownBy W' (some S)) : Between c p M w cb ab pb S D rec j W' := by
  have same : ∀ (B : Nat) (o : Obj), B ≠ S → W.heap[B]? = some o → W'.heap[B]? = some o := fun B o hB ho => (hg.block B (Array.getElem?_eq_some_iff.1 ho).1 (by simpa using hB)).trans ho
  obtain ⟨vl, hb, hr, hn⟩ := h.row
  exact ⟨⟨vl, hb.kept hg (by simp; omega), hr.kept hg (.inr hn), hn⟩, h.err.kept hg (by simp; omega), same _ _ (by omega) h.fin, same _ _ (by omega) h.cur, same _ _ (by omega) h.amt, same _ _ (by omega) h.ptr,
    same _ _ (by omega) h.loop, same _ _ (by omega) h.dfr, h.low.grown hg h.low.size (fun k e => by cases e; omega)⟩
end Go.Proofs.Yticgkhoidgkejaa
