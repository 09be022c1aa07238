/- StillOwns: what copies read as; Run with an error or without one. No conditions beyond each theorem's own. -/
import Derived.Test.YtnmldophadanbaaGl
import Derived.Test.YtnmldophadanbaaNq
set_option linter.unusedVariables false
set_option linter.unusedSimpArgs false
set_option linter.unusedSectionVars false
set_option linter.constructorNameAsVariable false
namespace Go.Proofs.Ytnmldophadanbaa
open Go.RowKit

theorem calls_gw_same {P : Program} {f : FuncId} {args : Array Value} {w : World} {x : Grew} {v : Value}
    (h : Calls P f args (gw w x) fun e w' => e = .returned v ∧ ∃ y, w' = gw (gw w x) y) : Calls P f args (gw w x) fun e w'' => e = .returned v ∧ ∃ x', w'' = gw w x' :=
  h.mono fun _ _ ⟨he, y, hb⟩ => ⟨he, by obtain ⟨z, hz⟩ := gw_gw w x y; exact ⟨z, by rw [hb, hz]⟩⟩
def intsV (n : Nat) (L : Nat → Int) : List Value := (List.range n).map fun j => .int .i64 (L j)
def spansV (n : Nat) (A B : Nat → Int) : List Value := (List.range n).flatMap fun j => [.int .i64 (A j), .int .i64 (B j)]
theorem intsV_len (n : Nat) (L : Nat → Int) : (intsV n L).length = n * 1 := by simp [intsV]
theorem spansV_succ (n : Nat) (A B : Nat → Int) : spansV (n + 1) A B = spansV n A B ++ [.int .i64 (A n), .int .i64 (B n)] := by simp [spansV, List.range_succ]
theorem spansV_len (A B : Nat → Int) : ∀ n, (spansV n A B).length = n * 2
  | 0 => rfl
  | n + 1 => by rw [spansV_succ, List.length_append, spansV_len A B n]; simp; omega
theorem spansV_get (A B : Nat → Int) : ∀ (n i : Nat), i < n → (spansV n A B)[i * 2]? = some (.int .i64 (A i)) ∧ (spansV n A B)[i * 2 + 1]? = some (.int .i64 (B i))
  | 0, i, h => by omega
  | n + 1, i, h => by
    rw [spansV_succ]
    by_cases hi : i < n
    · obtain ⟨h1, h2⟩ := spansV_get A B n i hi
      have l := spansV_len A B n
      rw [List.getElem?_append_left (by omega), List.getElem?_append_left (by omega)]
      exact ⟨h1, h2⟩
    · obtain rfl : i = n := by omega
      have l := spansV_len A B i
      rw [List.getElem?_append_right (by omega), List.getElem?_append_right (by omega), l]
      simp
theorem intsV_one (n : Nat) (L : Nat → Int) : ∀ u ∈ intsV n L, u.oneCell' = true := by
  intro u hu
  simp only [intsV, List.mem_map] at hu
  obtain ⟨j, _, rfl⟩ := hu
  rfl
theorem spansV_one (n : Nat) (A B : Nat → Int) : ∀ u ∈ spansV n A B, u.oneCell' = true := by
  intro u hu
  simp only [spansV, List.mem_flatMap] at hu
  obtain ⟨j, _, h⟩ := hu
  simp at h
  rcases h with rfl | rfl <;> rfl
theorem addr_add (b off j : Nat) : (⟨b, off, none⟩ : Addr).add j = ⟨b, off + j, none⟩ := by unfold Addr.add; split <;> simp_all
theorem ints_news {w : World} {a : Option Addr} {n : Nat} {L : Nat → Int} (h : IntsAt w a n L) : n = 0 ∨ ∃ ad, a = some ad ∧ ∀ j u, (intsV n L)[j]? = some u → w.cell? (ad.add j) = some u := by
  rcases h with h | ⟨b, off, rfl, _, hc⟩
  · exact .inl h
  · refine .inr ⟨_, rfl, fun j u hu => ?_⟩
    have hj : j < n := by have := (List.getElem?_eq_some_iff.1 hu).1; rw [intsV_len] at this; omega
    rw [addr_add, hc j hj, ← hu]
    simp [intsV, hj]
theorem spans_news {w : World} {a : Option Addr} {n : Nat} {A B : Nat → Int} (h : SpansAt w a n A B) : n = 0 ∨ ∃ ad, a = some ad ∧ ∀ j u, (spansV n A B)[j]? = some u → w.cell? (ad.add j) = some u := by
  rcases h with h | ⟨b, off, rfl, _, hc⟩
  · exact .inl h
  · refine .inr ⟨_, rfl, fun j u hu => ?_⟩
    have hj : j < n * 2 := by have := (List.getElem?_eq_some_iff.1 hu).1; rwa [spansV_len] at this
    rw [addr_add]
    have e : j = j / 2 * 2 ∨ j = j / 2 * 2 + 1 := by omega
    obtain ⟨c1, c2⟩ := hc (j / 2) (by omega)
    obtain ⟨g1, g2⟩ := spansV_get A B n (j / 2) (by omega)
    rcases e with e | e
    · rw [e] at hu ⊢
      rw [c1, ← hu, g1]
    · rw [e] at hu ⊢
      rw [← Nat.add_assoc, c2, ← hu, g2]
theorem spans_of_own {w : World} {base k : Nat} {e : TypeId} {A B : Nat → Int} {v : Value} (h : w.ownsRow base e 2 v k (spansV k A B)) : ∃ a cap, v = .slice a k cap ∧ SpansAt w a k A B := by
  rcases h.2 with ⟨rfl, h0⟩ | ⟨g, cap, cur, rfl, hg, hgb, _⟩
  · exact ⟨none, 0, by rw [h0], .inl h0⟩
  · refine ⟨_, cap, rfl, .inr ⟨g, 0, rfl, (Array.getElem?_eq_some_iff.1 hgb).1, fun i hi => ?_⟩⟩
    obtain ⟨h1, h2⟩ := spansV_get A B k i hi
    simp only [Nat.zero_add]
    exact ⟨row_cells h _ _ h1, row_cells h _ _ h2⟩

section
variable (aL aV aM : Option Addr) (m cL cV k cM : Nat) (c : Crv) (p : Pot3) (M : Nat → Int) (hn : c.n ≤ 40) (hm : m ≤ 40) (hk : k ≤ 70)
include hn hm hk
theorem run_row : ∃ (K : Nat) (D : Nat → Dr3) (Ds : List Value) (E : Pot3) (x : Int), K ≤ 70 ∧ (∀ u ∈ Ds, u.oneCell' = true) ∧
    (∀ (w : World) base v, w.ownsRow base 41 3 v K Ds → ∃ a cap, v = .slice a K cap ∧ DrawnAt w a K D) ∧
    ∀ w, CurIn w aL aV c.n m c.L c.A c.B → IntsAt w aM k M → Calls Try.prog 17 #[.agg #[.slice aL c.n cL, .slice aV m cV], .agg #[.int .i64 p.v, .int .i64 p.lo, .int .i64 p.hi], .slice aM k cM] w fun e w' =>
      ∃ v, e = .returned (.tuple #[v, .agg #[.int .i64 E.v, .int .i64 E.lo, .int .i64 E.hi], .int .i64 x]) ∧ w'.ownsRow w.heap.size 41 3 v K Ds ∧ Below w.heap.size w w' := by
  by_cases h : runErr m c p M k = 0
  · exact ⟨k, c.outAt p M, c.outs p M k, c.potAt p M k, 0, hk, outs_one c p M k, fun w base v h => drawn_of_own h, fun w hc hM => run_ok aL aV aM m cL cV k cM c p M w (by omega) (by omega) hc.ls hc.vs hM h⟩
  · refine ⟨0, fun _ => ⟨0, 0, 0⟩, [], ⟨0, 0, 0⟩, runErr m c p M k, by omega, by simp, fun w base v h => ?_, fun w hc hM => (run_err aL aV aM m cL cV k cM c p M w (by omega) (by omega) (by omega) hc.ls hc.vs hM _ rfl h).mono ?_⟩
    · rcases h.2 with ⟨rfl, _⟩ | ⟨g, cap, cur, rfl, _⟩
      · exact ⟨none, 0, rfl, .inl rfl⟩
      · exact ⟨_, cap, rfl, .inl rfl⟩
    · rintro e w' ⟨rfl, hb⟩
      exact ⟨_, rfl, World.ownsRow_nil _ _ _ _, hb⟩
end
end Go.Proofs.Ytnmldophadanbaa
