/- WashNarrower: contract of in; worlds that keep some blocks; rows of spans. No conditions beyond each theorem's own. -/
import Derived.Test.YtecbacbecopbeaaCg
import Derived.Test.YtecbacbecopbeaaEc
import Derived.Test.YtecbacbecopbeaaAo
set_option linter.unusedVariables false
set_option linter.unusedSimpArgs false
set_option linter.unusedSectionVars false
set_option linter.constructorNameAsVariable false
namespace Go.Proofs.Ytecbacbecopbeaa
open Go.RowKit

attribute [local go_sem] gw_cell gw_frozen gw_size

theorem nin_any {a b c d : Int} (h : Nar a b c d) (w : World) : Calls Try.prog 28 #[.agg #[.int .i64 a, .int .i64 b], .agg #[.int .i64 c, .int .i64 d]] w fun e w' => e = .returned (.bool true) ∧ Below w.heap.size w w' := by
  obtain ⟨h1, h2, h3⟩ := h
  go_enter Try.func28, Try.ntmps28
  go_wp2
  go_ret
  exact ⟨rfl, (below_alloc _ _).alloc (by simp) _⟩

/-- a world in which some blocks are as they are in W -/
structure KeepW (W : World) (L : List Nat) where
  w : World
  h : ∀ b, b ∈ L → w.heap[b]? = W.heap[b]?
theorem keepW_cell {W : World} {L : List Nat} (x : KeepW W L) {b o : Nat} (hb : b ∈ L) : x.w.cell? ⟨b, o, none⟩ = W.cell? ⟨b, o, none⟩ := by
  simp [World.cell?, x.h b hb]
theorem keep1 {W w : World} {b : Nat} (h : w.heap[b]? = W.heap[b]?) : ∃ x : KeepW W [b], w = x.w := ⟨⟨w, fun b' hb => by simp only [List.mem_singleton] at hb; rw [hb]; exact h⟩, rfl⟩
theorem keep2 {W w : World} {b c : Nat} (h : w.heap[b]? = W.heap[b]?) (h2 : w.heap[c]? = W.heap[c]?) : ∃ x : KeepW W [b, c], w = x.w := ⟨⟨w, fun b' hb => by simp only [List.mem_cons, List.not_mem_nil, or_false] at hb; rcases hb with hb | hb <;> rw [hb] <;> assumption⟩, rfl⟩
theorem KW.row {w0 w w' : World} {g gb N nB cB : Nat} {aB : Option Addr} {r : Option Nat} (h : KW w0 g gb N aB nB cB w) (hg : w.grownBy w' r) (hr : ∀ b, r = some b → w0.heap.size ≤ b ∧ b ≠ g ∧ b ≠ gb) : KW w0 g gb N aB nB cB w' :=
  ⟨h.low.grown hg h.low.size (fun b hb => (hr b hb).1), h.k.imp fun n ⟨a, b⟩ => ⟨a, (hg.block _ (Array.getElem?_eq_some_iff.1 b).1 (fun e => (hr g e.symm).2.1 rfl)).trans b⟩, (hg.block _ (Array.getElem?_eq_some_iff.1 h.b).1 (fun e => (hr gb e.symm).2.2 rfl)).trans h.b, h.lt, h.ne⟩
theorem KW.inn {w0 w : World} {g gb N nB cB : Nat} {aB : Option Addr} (h : KW w0 g gb N aB nB cB w) : g < w.heap.size := by
  obtain ⟨n, _, hn⟩ := h.k
  exact (Array.getElem?_eq_some_iff.1 hn).1
theorem grownBy_row {w W W' : World} {g : Nat} {r : Option Nat} (h1 : w.grownBy W (some g)) (h2 : W.grownBy W' r) (hB : ∀ b, r = some b → w.heap.size ≤ b) : w.grownBy W' (some g) :=
  ⟨h2.os.trans h1.os, h2.tape.trans h1.tape, h2.output.trans h1.output, Nat.le_trans h1.size h2.size, fun k hk hne => (h2.block k (Nat.lt_of_lt_of_le hk h1.size) (fun e => by have := hB k e.symm; omega)).trans (h1.block k hk hne)⟩
theorem spansV_congr {n : Nat} {A B A' B' : Nat → Int} (h : ∀ i, i < n → A i = A' i ∧ B i = B' i) : spansV n A B = spansV n A' B' := by
  unfold spansV
  rw [List.flatMap_def, List.flatMap_def]
  congr 1
  refine List.map_congr_left fun i hi => ?_
  have := h i (List.mem_range.1 hi)
  rw [this.1, this.2]
theorem spansV_push (n : Nat) (A B : Nat → Int) (a b : Int) : spansV n A B ++ [.int .i64 a, .int .i64 b] = spansV (n + 1) (fun i => if i < n then A i else a) (fun i => if i < n then B i else b) := by
  rw [spansV_succ]
  simp only [Nat.lt_irrefl, if_false]
  congr 1
  exact spansV_congr fun i hi => by simp [hi]
theorem nar_push {n : Nat} {A B C D : Nat → Int} {a b : Int} (h : ∀ i, i < n → Nar (A i) (B i) (C i) (D i)) (h2 : Nar a b (C n) (D n)) : ∀ i, i < n + 1 → Nar ((fun i => if i < n then A i else a) i) ((fun i => if i < n then B i else b) i) (C i) (D i) := by
  intro i hi
  by_cases hlt : i < n
  · simp only [hlt, if_true]; exact h i hlt
  · obtain rfl : i = n := by omega
    simp only [Nat.lt_irrefl, if_false]; exact h2
/-- an owned row of spans as a list, with its capacity -/
theorem spans_full {w : World} {base n : Nat} {e : TypeId} {A B : Nat → Int} {a : Option Addr} {c : Nat} (h : w.ownsRow base e 2 (.slice a n c) n (spansV n A B)) : SpansAt w a n A B ∧ n ≤ c ∧ c ≤ maxLen := by
  refine ⟨?_, ?_⟩
  · obtain ⟨a', c', hv, hS⟩ := spans_of_own h
    cases hv
    exact hS
  · rcases h.2 with ⟨hv, hn⟩ | ⟨g, cap, cur, hv, _, _, h4, h5, _⟩
    · cases hv
      exact ⟨Nat.le_refl _, by unfold maxLen; omega⟩
    · cases hv
      exact ⟨h4, h5⟩
end Go.Proofs.Ytecbacbecopbeaa
