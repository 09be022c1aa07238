/- StillLasts: the walk of the law. Contracts of long, the reference's Pot, a span within another one; lists of what is drawn in memory. Plain laws: narrower pots leave spans that are not wider. StillNarrower: the walk of the law where it is short: too long, or an error. StillNarrower: the walk of the law where the run goes through. Contracts of Plates and what it holds, Vapour, Check. Contracts of Plates, Vapour. No conditions beyond each theorem's own. -/
import Derived.Test.YtfefmgadfklgmaaGf
import Derived.Test.YtfefmgadfklgmaaFb
import Derived.Deep.QuietTactic
import Derived.BigQuiet
set_option linter.unusedVariables false
set_option linter.unusedSimpArgs false
set_option linter.unusedSectionVars false
set_option linter.constructorNameAsVariable false

namespace Go.Proofs.Ytfefmgadfklgmaa.L4
open Go.RowKit

attribute [local go_sem] gw_cell gw_frozen gw_size

set_option maxHeartbeats 400000 in
theorem rin_any (n lo hi : Int) (w : World) :
    Calls Try.prog 16 #[.int .i64 n, .int .i64 lo, .int .i64 hi] w fun e w' => e = .returned (.bool (inB n lo hi)) ∧ w = w' := by
  by_cases h1 : lo ≤ n
  · by_cases h2 : n ≤ hi
    · have hb : inB n lo hi = true := by simp [inB, h1, h2]
      rw [hb]; clear hb
      go_enter Try.func16, Try.ntmps16
      go_wp2
      go_ret
      exact ⟨rfl, rfl⟩
    · have hb : inB n lo hi = false := by simp [inB, h2]
      rw [hb]; clear hb
      go_enter Try.func16, Try.ntmps16
      go_wp2
      go_ret
      exact ⟨rfl, rfl⟩
  · have hb : inB n lo hi = false := by simp [inB, h1]
    rw [hb]; clear hb
    go_enter Try.func16, Try.ntmps16
    go_wp2
    go_ret
    exact ⟨rfl, rfl⟩
theorem rin_b {b : Bool} (n lo hi : Int) (w : World) (h : inB n lo hi = b) :
    Calls Try.prog 16 #[.int .i64 n, .int .i64 lo, .int .i64 hi] w fun e w' => e = .returned (.bool b) ∧ w = w' := h ▸ rin_any n lo hi w

set_option maxHeartbeats 400000 in
theorem rwithin_any (lo hi low high : Int) (w : World) :
    Calls Try.prog 17 #[.agg #[.int .i64 lo, .int .i64 hi], .int .i64 low, .int .i64 high] w fun e w' => e = .returned (.bool (spanB lo hi low high)) ∧ Below w.heap.size w w' := by
  by_cases h1 : low ≤ lo
  · by_cases h2 : lo ≤ hi
    · by_cases h3 : hi ≤ high
      · have hb : spanB lo hi low high = true := by simp [spanB, h1, h2, h3]
        rw [hb]; clear hb
        go_enter Try.func17, Try.ntmps17
        go_wp2
        go_ret
        exact ⟨rfl, (Below.refl _ _).alloc (Nat.le_refl _) _⟩
      · have hb : spanB lo hi low high = false := by simp [spanB, h3]
        rw [hb]; clear hb
        go_enter Try.func17, Try.ntmps17
        go_wp2
        go_ret
        exact ⟨rfl, (Below.refl _ _).alloc (Nat.le_refl _) _⟩
    · have hb : spanB lo hi low high = false := by simp [spanB, h2]
      rw [hb]; clear hb
      go_enter Try.func17, Try.ntmps17
      go_wp2
      go_ret
      exact ⟨rfl, (Below.refl _ _).alloc (Nat.le_refl _) _⟩
  · have hb : spanB lo hi low high = false := by simp [spanB, h1]
    rw [hb]; clear hb
    go_enter Try.func17, Try.ntmps17
    go_wp2
    go_ret
    exact ⟨rfl, (Below.refl _ _).alloc (Nat.le_refl _) _⟩
theorem rwithin_b {b : Bool} (lo hi low high : Int) (w : World) (h : spanB lo hi low high = b) :
    Calls Try.prog 17 #[.agg #[.int .i64 lo, .int .i64 hi], .int .i64 low, .int .i64 high] w fun e w' => e = .returned (.bool b) ∧ Below w.heap.size w w' := h ▸ rwithin_any lo hi low high w

/-- a slice of what is drawn -/
def DrawnAt (w : World) (a : Option Addr) (n : Nat) (D : Nat → Dr3) : Prop :=
  n = 0 ∨ ∃ b off, a = some ⟨b, off, none⟩ ∧ b < w.heap.size ∧ ∀ i, i < n → w.cell? ⟨b, off + i * 3, none⟩ = some (.int .i64 (D i).d) ∧ w.cell? ⟨b, off + i * 3 + 1, none⟩ = some (.int .i64 (D i).lo) ∧ w.cell? ⟨b, off + i * 3 + 2, none⟩ = some (.int .i64 (D i).hi)
theorem DrawnAt.below {w w' : World} {a : Option Addr} {n : Nat} {D : Nat → Dr3} (h : DrawnAt w a n D) (hb : Below w.heap.size w w') : DrawnAt w' a n D := by
  rcases h with h | ⟨b, off, rfl, hlt, hc⟩
  · exact .inl h
  · exact .inr ⟨b, off, rfl, Nat.lt_of_lt_of_le hlt hb.size, fun i hi => ⟨(hb.cell (p := ⟨b, _, none⟩) hlt).trans (hc i hi).1, (hb.cell (p := ⟨b, _, none⟩) hlt).trans (hc i hi).2.1, (hb.cell (p := ⟨b, _, none⟩) hlt).trans (hc i hi).2.2⟩⟩
theorem outs_get (c : Crv) (p : Pot3) (M : Nat → Int) : ∀ (k i : Nat), i < k → (c.outs p M k)[i * 3]? = some (.int .i64 (c.outAt p M i).d) ∧ (c.outs p M k)[i * 3 + 1]? = some (.int .i64 (c.outAt p M i).lo) ∧ (c.outs p M k)[i * 3 + 2]? = some (.int .i64 (c.outAt p M i).hi)
  | 0, i, h => by omega
  | k + 1, i, h => by
    rw [c.outs_succ]
    have hl := c.outs_length p M k
    by_cases hi : i < k
    · obtain ⟨h1, h2, h3⟩ := outs_get c p M k i hi
      exact ⟨by rw [List.getElem?_append_left (by omega)]; exact h1, by rw [List.getElem?_append_left (by omega)]; exact h2, by rw [List.getElem?_append_left (by omega)]; exact h3⟩
    · obtain rfl : i = k := by omega
      refine ⟨?_, ?_, ?_⟩
      · rw [List.getElem?_append_right (by omega), hl, Nat.sub_self]; rfl
      · rw [List.getElem?_append_right (by omega), hl, show i * 3 + 1 - i * 3 = 1 by omega]; rfl
      · rw [List.getElem?_append_right (by omega), hl, show i * 3 + 2 - i * 3 = 2 by omega]; rfl
theorem drawn_of_own {w : World} {base k : Nat} {e : TypeId} {c : Crv} {p : Pot3} {M : Nat → Int} {v : Value} (h : w.ownsRow base e 3 v k (c.outs p M k)) : ∃ a cap, v = .slice a k cap ∧ DrawnAt w a k (c.outAt p M) := by
  rcases h.2 with ⟨rfl, h0⟩ | ⟨g, cap, cur, rfl, hg, hgb, _⟩
  · exact ⟨none, 0, by rw [h0], .inl h0⟩
  · refine ⟨_, cap, rfl, .inr ⟨g, 0, rfl, (Array.getElem?_eq_some_iff.1 hgb).1, fun i hi => ?_⟩⟩
    obtain ⟨h1, h2, h3⟩ := outs_get c p M k i hi
    simp only [Nat.zero_add]
    exact ⟨row_cells h _ _ h1, row_cells h _ _ h2, row_cells h _ _ h3⟩
end Go.Proofs.Ytfefmgadfklgmaa.L4

namespace Go.Proofs.Ytfefmgadfklgmaa.L4
open Go.RowKit

attribute [local go_sem] gw_cell gw_frozen gw_size

section
variable {w W W' : World} {aL aV : Option Addr} {n m cL cV : Nat} {v lo hi : Int}
end

end Go.Proofs.Ytfefmgadfklgmaa.L4

