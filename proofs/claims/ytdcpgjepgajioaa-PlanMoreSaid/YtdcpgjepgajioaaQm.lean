/- Lists of rows, and lists of such lists, under way. No conditions beyond each theorem's own. -/
import Derived.Test.YtdcpgjepgajioaaQa
import Derived.Test.YtdcpgjepgajioaaBl
set_option linter.unusedVariables false
set_option linter.unusedSimpArgs false
set_option linter.unusedSectionVars false
set_option linter.constructorNameAsVariable false
namespace Go.Proofs.Ytdcpgjepgajioaa
open Go.RowKit

def oB (a : Option Addr) : Option Nat := a.map (·.block)
theorem own_oB (a : Option Addr) (n c : Nat) : (Value.slice a n c).ownBlock = oB a := by cases a <;> rfl
/-- a row that lies behind a bound and apart from a block -/
def RowB (V : World) (base : Nat) (ob : Option Nat) (a : Option Addr) (n : Nat) (L : Nat → Int) : Prop := n = 0 ∨ ∃ b off, a = some ⟨b, off, none⟩ ∧ base ≤ b ∧ b < V.heap.size ∧ some b ≠ ob ∧ ∀ i, i < n → V.cell? ⟨b, off + i, none⟩ = some (.int .i64 (L i))
section
variable {V V' : World} {base base' : Nat} {ob ob' : Option Nat} {a : Option Addr} {n : Nat} {L : Nat → Int}
theorem RowB.ints (h : RowB V base ob a n L) : IntsAt V a n L := by
  rcases h with h | ⟨b, off, e, _, hb, _, hc⟩
  · exact .inl h
  · exact .inr ⟨b, off, e, hb, hc⟩
theorem RowB.move (h : RowB V base ob a n L) (g : V.grownBy V' ob) (hk : ob' = ob ∨ ∀ b, ob' = some b → V.heap.size ≤ b) : RowB V' base ob' a n L := by
  rcases h with h | ⟨b, off, e, h0, hb, hn, hc⟩
  · exact .inl h
  · refine .inr ⟨b, off, e, h0, Nat.lt_of_lt_of_le hb g.size, fun e2 => ?_, fun i hi => (World.cell?_of_block (a := ⟨b, off + i, none⟩) (g.block b hb hn)).trans (hc i hi)⟩
    rcases hk with h | h
    · rw [h] at e2; exact hn e2
    · have := h b e2.symm; omega
theorem RowB.below (h : RowB V base ob a n L) (g : Below V.heap.size V V') : RowB V' base ob a n L := h.move (grownBy_of_below g _) (.inl rfl)
theorem RowB.low (h : RowB V base ob a n L) (hb : base' ≤ base) (ho : ∀ b, ob' = some b → b < base) : RowB V base' ob' a n L := by
  rcases h with h | ⟨b, off, e, h0, h1, hn, hc⟩
  · exact .inl h
  · exact .inr ⟨b, off, e, Nat.le_trans hb h0, h1, fun e2 => by have := ho b e2.symm; omega, hc⟩
end
/-- rows of n numbers under way -/
def IList (V : World) (base : Nat) (a : Option Addr) (k c n : Nat) (M : Nat → Nat → Int) : Prop :=
  ∃ (rA : Nat → Option Addr) (rC : Nat → Nat), V.ownsRow base 22 1 (.slice a k c) k ((List.range k).map fun t => .slice (rA t) n (rC t)) ∧ ∀ t, t < k → RowB V base (oB a) (rA t) n (M t)
theorem IList.nil (V : World) (base n : Nat) (M : Nat → Nat → Int) : IList V base none 0 0 n M := ⟨fun _ => none, fun _ => 0, World.ownsRow_nil _ _ _ _, fun t ht => by cases ht⟩
theorem IList.below {V V' : World} {base k c n : Nat} {a : Option Addr} {M : Nat → Nat → Int} (h : IList V base a k c n M) (hb : Below V.heap.size V V') : IList V' base a k c n M := by
  obtain ⟨rA, rC, h1, h2⟩ := h
  exact ⟨rA, rC, own_below h1 hb, fun t ht => (h2 t ht).below hb⟩
theorem IList.lt {V : World} {base k c n : Nat} {a : Option Addr} {M : Nat → Nat → Int} (h : IList V base a k c n M) : ∀ b, oB a = some b → base ≤ b ∧ b < V.heap.size := fun b hb => by
  obtain ⟨rA, rC, h1, _⟩ := h
  exact h1.lt b (by rw [own_oB]; exact hb)
theorem range_snoc (k : Nat) (f g : Nat → Value) (x : Value) (h0 : ∀ t, t < k → g t = f t) (h1 : g k = x) : (List.range k).map f ++ [x] = (List.range (k + 1)).map g := by
  rw [List.range_succ, List.map_append, List.map_cons, List.map_nil, h1]
  exact congrArg (· ++ [x]) (List.map_congr_left fun t ht => (h0 t (List.mem_range.1 ht)).symm)
theorem IList.push {V V2 : World} {base k n cR : Nat} {a aR : Option Addr} {M : Nat → Nat → Int} {v9 : Value} {rA : Nat → Option Addr} {rC : Nat → Nat} (h3 : ∀ t, t < k → RowB V base (oB a) (rA t) n (M t)) (hr : RowB V base (oB a) aR n (M k)) (hg : V.grownBy V2 (oB a))
    (h9 : V2.ownsRow base 22 1 v9 (k + 1) (((List.range k).map fun t => .slice (rA t) n (rC t)) ++ [.slice aR n cR])) (hat : v9.ownBlock = oB a ∨ ∀ b, v9.ownBlock = some b → V.heap.size ≤ b) :
    ∃ a9 c9, v9 = .slice a9 (k + 1) c9 ∧ IList V2 base a9 (k + 1) c9 n M ∧ (oB a9 = oB a ∨ ∀ b, oB a9 = some b → V.heap.size ≤ b) := by
  obtain ⟨a9, c9, rfl⟩ := own_form h9
  rw [own_oB] at hat
  refine ⟨a9, c9, rfl, ⟨fun t => if t < k then rA t else aR, fun t => if t < k then rC t else cR, ?_, fun t ht => ?_⟩, hat⟩
  · rw [← range_snoc k (fun t => .slice (rA t) n (rC t)) _ (.slice aR n cR) (fun t ht => by simp [ht]) (by simp)]
    exact h9
  · by_cases htk : t < k
    · simp only [htk, if_true]; exact (h3 t htk).move hg hat
    · obtain rfl : t = k := by omega
      simp only [Nat.lt_irrefl, if_false]; exact hr.move hg hat
/-- a path: rows of n numbers, behind a bound and apart from a block -/
def MatB (V : World) (base : Nat) (ob : Option Nat) (a : Option Addr) (k n : Nat) (M : Nat → Nat → Int) : Prop :=
  ∃ (rA : Nat → Option Addr) (rC : Nat → Nat), (k = 0 ∨ ∃ b off, a = some ⟨b, off, none⟩ ∧ base ≤ b ∧ b < V.heap.size ∧ some b ≠ ob ∧ ∀ t, t < k → V.cell? ⟨b, off + t, none⟩ = some (.slice (rA t) n (rC t))) ∧ ∀ t, t < k → RowB V base ob (rA t) n (M t)
theorem MatB.move {V V' : World} {base k n : Nat} {ob ob' : Option Nat} {a : Option Addr} {M : Nat → Nat → Int} (h : MatB V base ob a k n M) (g : V.grownBy V' ob) (hk : ob' = ob ∨ ∀ b, ob' = some b → V.heap.size ≤ b) : MatB V' base ob' a k n M := by
  obtain ⟨rA, rC, h1, h2⟩ := h
  refine ⟨rA, rC, ?_, fun t ht => (h2 t ht).move g hk⟩
  rcases h1 with h | ⟨b, off, e, h0, hb, hn, hc⟩
  · exact .inl h
  · refine .inr ⟨b, off, e, h0, Nat.lt_of_lt_of_le hb g.size, fun e2 => ?_, fun i hi => (World.cell?_of_block (a := ⟨b, off + i, none⟩) (g.block b hb hn)).trans (hc i hi)⟩
    rcases hk with h | h
    · rw [h] at e2; exact hn e2
    · have := h b e2.symm; omega
/-- a list of rows is a path -/
theorem IList.path {V : World} {base base' k c n : Nat} {a : Option Addr} {M : Nat → Nat → Int} {ob : Option Nat} (h : IList V base a k c n M) (hb : base' ≤ base) (ho : ∀ b, ob = some b → b < base) : MatB V base' ob a k n M := by
  obtain ⟨rA, rC, h1, h2⟩ := h
  refine ⟨rA, rC, ?_, fun t ht => (h2 t ht).low hb ho⟩
  rcases h1.2 with ⟨_, h0⟩ | ⟨g, cap, cur, hv, q1, q2, _⟩
  · exact .inl h0
  · simp only [Value.slice.injEq] at hv
    obtain ⟨rfl, _, rfl⟩ := hv
    refine .inr ⟨g, 0, rfl, Nat.le_trans hb q1, (Array.getElem?_eq_some_iff.1 q2).1, fun e => by have := ho g e.symm; omega, fun t ht => ?_⟩
    have := h1.cells (g := g) rfl t (.slice (rA t) n (rC t)) (by simp [ht])
    rw [addr_add] at this
    exact this
/-- paths of k rows of n numbers under way -/
def JList (V : World) (base : Nat) (a : Option Addr) (j c k n : Nat) (M : Nat → Nat → Nat → Int) : Prop :=
  ∃ (pA : Nat → Option Addr) (pC : Nat → Nat), V.ownsRow base 32 1 (.slice a j c) j ((List.range j).map fun i => .slice (pA i) k (pC i)) ∧ ∀ i, i < j → MatB V base (oB a) (pA i) k n (M i)
theorem JList.nil (V : World) (base k n : Nat) (M : Nat → Nat → Nat → Int) : JList V base none 0 0 k n M := ⟨fun _ => none, fun _ => 0, World.ownsRow_nil _ _ _ _, fun t ht => by cases ht⟩
theorem JList.below {V V' : World} {base j c k n : Nat} {a : Option Addr} {M : Nat → Nat → Nat → Int} (h : JList V base a j c k n M) (hb : Below V.heap.size V V') : JList V' base a j c k n M := by
  obtain ⟨pA, pC, h1, h2⟩ := h
  exact ⟨pA, pC, own_below h1 hb, fun t ht => (h2 t ht).move (grownBy_of_below hb _) (.inl rfl)⟩
theorem JList.lt {V : World} {base j c k n : Nat} {a : Option Addr} {M : Nat → Nat → Nat → Int} (h : JList V base a j c k n M) : ∀ b, oB a = some b → base ≤ b ∧ b < V.heap.size := fun b hb => by
  obtain ⟨rA, rC, h1, _⟩ := h
  exact h1.lt b (by rw [own_oB]; exact hb)
/-- a store below the bound leaves it -/
theorem JList.stored {V V' : World} {base j c k n B : Nat} {a : Option Addr} {M : Nat → Nat → Nat → Int} (h : JList V base a j c k n M) (g : V.grownBy V' (some B)) (hB : B < base) : JList V' base a j c k n M := by
  have ol := h.lt
  obtain ⟨pA, pC, h1, h2⟩ := h
  have row : ∀ {a' : Option Addr} {n' : Nat} {L : Nat → Int}, RowB V base (oB a) a' n' L → RowB V' base (oB a) a' n' L := fun hr => by
    rcases hr with h | ⟨b, off, e, h0, hb, hn, hc⟩
    · exact .inl h
    · exact .inr ⟨b, off, e, h0, Nat.lt_of_lt_of_le hb g.size, hn, fun i hi => (World.cell?_of_block (a := ⟨b, off + i, none⟩) (g.block b hb (fun e => by cases e; omega))).trans (hc i hi)⟩
  refine ⟨pA, pC, h1.kept g ?_, fun i hi => ?_⟩
  · cases h9 : (Value.slice a j c).ownBlock with
    | none => exact .inl rfl
    | some b => exact .inr (fun e => by cases e; rw [own_oB] at h9; have := (ol _ h9).1; omega)
  · obtain ⟨rA, rC, h3, h4⟩ := h2 i hi
    refine ⟨rA, rC, ?_, fun t ht => row (h4 t ht)⟩
    rcases h3 with h | ⟨b, off, e, h0, hb, hn, hc⟩
    · exact .inl h
    · exact .inr ⟨b, off, e, h0, Nat.lt_of_lt_of_le hb g.size, hn, fun i hi => (World.cell?_of_block (a := ⟨b, off + i, none⟩) (g.block b hb (fun e => by cases e; omega))).trans (hc i hi)⟩
theorem JList.push {V V2 : World} {base j k n cR : Nat} {a aR : Option Addr} {M : Nat → Nat → Nat → Int} {v9 : Value} {pA : Nat → Option Addr} {pC : Nat → Nat} (h3 : ∀ i, i < j → MatB V base (oB a) (pA i) k n (M i)) (hr : MatB V base (oB a) aR k n (M j)) (hg : V.grownBy V2 (oB a))
    (h9 : V2.ownsRow base 32 1 v9 (j + 1) (((List.range j).map fun i => .slice (pA i) k (pC i)) ++ [.slice aR k cR])) (hat : v9.ownBlock = oB a ∨ ∀ b, v9.ownBlock = some b → V.heap.size ≤ b) :
    ∃ a9 c9, v9 = .slice a9 (j + 1) c9 ∧ JList V2 base a9 (j + 1) c9 k n M := by
  obtain ⟨a9, c9, rfl⟩ := own_form h9
  rw [own_oB] at hat
  refine ⟨a9, c9, rfl, fun t => if t < j then pA t else aR, fun t => if t < j then pC t else cR, ?_, fun t ht => ?_⟩
  · rw [← range_snoc j (fun t => .slice (pA t) k (pC t)) _ (.slice aR k cR) (fun t ht => by simp [ht]) (by simp)]
    exact h9
  · by_cases htk : t < j
    · simp only [htk, if_true]; exact (h3 t htk).move hg hat
    · obtain rfl : t = j := by omega
      simp only [Nat.lt_irrefl, if_false]; exact hr.move hg hat
/-- the paths, read -/
theorem JList.out {V : World} {base j c k n : Nat} {a : Option Addr} {M : Nat → Nat → Nat → Int} (h : JList V base a j c k n M) : ∃ (pA : Nat → Option Addr) (pC : Nat → Nat) (yA : Nat → Nat → Option Addr) (yC : Nat → Nat → Nat), CellsAt V a j (fun i => .slice (pA i) k (pC i)) ∧ ∀ i, i < j → CellsAt V (pA i) k (fun t => .slice (yA i t) n (yC i t)) ∧ ∀ t, t < k → IntsAt V (yA i t) n (M i t) := by
  obtain ⟨pA, pC, h1, h2⟩ := h
  have each : ∀ i, ∃ q : (Nat → Option Addr) × (Nat → Nat), i < j → CellsAt V (pA i) k (fun t => .slice (q.1 t) n (q.2 t)) ∧ ∀ t, t < k → IntsAt V (q.1 t) n (M i t) := fun i => by
    by_cases hi : i < j
    · obtain ⟨rA, rC, h3, h4⟩ := h2 i hi
      refine ⟨(rA, rC), fun _ => ⟨?_, fun t ht => (h4 t ht).ints⟩⟩
      rcases h3 with h | ⟨b, off, e, h0, hb, hn, hc⟩
      · exact .inl h
      · exact .inr ⟨b, off, e, hb, hc⟩
    · exact ⟨(fun _ => none, fun _ => 0), fun h => absurd h hi⟩
  obtain ⟨Q, hQ⟩ := Classical.axiomOfChoice each
  refine ⟨pA, pC, fun i => (Q i).1, fun i => (Q i).2, ?_, hQ⟩
  rcases h1.2 with ⟨_, h0⟩ | ⟨g, cap, cur, hv, q1, q2, _⟩
  · exact .inl h0
  · simp only [Value.slice.injEq] at hv
    obtain ⟨rfl, _, rfl⟩ := hv
    refine .inr ⟨g, 0, rfl, (Array.getElem?_eq_some_iff.1 q2).1, fun t ht => ?_⟩
    have := h1.cells (g := g) rfl t (.slice (pA t) k (pC t)) (by simp [ht])
    rw [addr_add] at this
    exact this
end Go.Proofs.Ytdcpgjepgajioaa
