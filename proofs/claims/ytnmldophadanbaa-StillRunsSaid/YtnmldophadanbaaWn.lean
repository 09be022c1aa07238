/- Contracts of still.Run: with an error, and without one. No conditions beyond each theorem's own. -/
import Derived.Test.YtnmldophadanbaaWm
import Derived.Test.YtnmldophadanbaaKn
set_option linter.unusedVariables false
set_option linter.unusedSimpArgs false
set_option linter.unusedSectionVars false
set_option linter.constructorNameAsVariable false
namespace Go.Proofs.Ytnmldophadanbaa
open Go.RowKit

/-- how many amounts can be drawn -/
def Crv.stop (c : Crv) (p : Pot3) (M : Nat → Int) : Nat → Nat
  | 0 => 0
  | k + 1 => if c.stop p M k = k ∧ c.errAt p M k = 0 then k + 1 else c.stop p M k
theorem Crv.stop_le (c : Crv) (p : Pot3) (M : Nat → Int) : ∀ k, c.stop p M k ≤ k
  | 0 => Nat.le_refl _
  | k + 1 => by unfold Crv.stop; have := c.stop_le p M k; split <;> omega
theorem Crv.stop_lt (c : Crv) (p : Pot3) (M : Nat → Int) : ∀ k j, j < c.stop p M k → c.errAt p M j = 0
  | 0, j, h => by simp [Crv.stop] at h
  | k + 1, j, h => by
    unfold Crv.stop at h
    split at h
    · rename_i hc
      by_cases e : j = k
      · rw [e]; exact hc.2
      · exact c.stop_lt p M k j (by rw [hc.1]; omega)
    · exact c.stop_lt p M k j h
theorem Crv.stop_bad (c : Crv) (p : Pot3) (M : Nat → Int) : ∀ k, c.stop p M k < k → c.errAt p M (c.stop p M k) ≠ 0
  | 0, h => by simp at h
  | k + 1, h => by
    unfold Crv.stop at h ⊢
    split
    · rename_i hc; simp only [hc, and_self, if_true] at h; omega
    · rename_i hc
      simp only [hc, if_false] at h
      by_cases e : c.stop p M k = k
      · rw [e]; exact fun hx => hc ⟨e, hx⟩
      · exact c.stop_bad p M k (by have := c.stop_le p M k; omega)

/-- the error of a run -/
def runErr (m : Nat) (c : Crv) (p : Pot3) (M : Nat → Int) (k : Nat) : Int :=
  if earlyE c.n m c.L c.A c.B p.v p.lo p.hi k ≠ 0 then earlyE c.n m c.L c.A c.B p.v p.lo p.hi k else if c.stop p M k < k then c.errAt p M (c.stop p M k) else 0

theorem potAt_ok {c : Crv} {p : Pot3} {M : Nat → Int} {k : Nat} (g : Good c.n c.L c.A c.B) (hp : p.ok) : ∀ j, j ≤ c.stop p M k → (c.potAt p M j).ok
  | 0, _ => hp
  | j + 1, h => (next_ok g (potAt_ok (k := k) g hp j (by omega)) (c.stop_lt p M k j (by omega))).1

theorem early_zero {n m : Nat} {L A B : Nat → Int} {v lo hi : Int} {k : Nat} (h : earlyE n m L A B v lo hi k = 0) : k ≤ 64 ∧ m = n ∧ Good n L A B ∧ 0 ≤ lo ∧ lo ≤ hi ∧ hi ≤ v ∧ v ≤ 1073741824 := by
  unfold earlyE at h
  split at h
  · omega
  · rename_i hk
    split at h
    · rename_i hc
      simp only [Bool.and_eq_true] at hc
      obtain ⟨h1, h2⟩ := hc
      obtain ⟨e, g⟩ := good_of h1
      simp only [potB, Bool.and_eq_true] at h2
      have a := inB_t.1 h2.1
      have b := spanB_t.1 h2.2
      exact ⟨by omega, e, g, by omega, by omega, by omega, by omega⟩
    · omega

theorem ints_some {w : World} {a : Option Addr} {k : Nat} {M : Nat → Int} (h : IntsAt w a k M) (hw : 0 < w.heap.size) : ∃ b off, (0 < k → a = some ⟨b, off, none⟩) ∧ b < w.heap.size ∧ ∀ i, i < k → w.cell? ⟨b, off + i, none⟩ = some (.int .i64 (M i)) := by
  rcases h with h | ⟨b, off, rfl, hlt, hc⟩
  · exact ⟨0, 0, by omega, hw, fun i hi => by omega⟩
  · exact ⟨b, off, fun _ => rfl, hlt, hc⟩

section
variable (aL aV aM : Option Addr) (m cL cV k cM : Nat) (c : Crv) (p : Pot3) (M : Nat → Int) (w : World) (hn : c.n ≤ 1000000000000) (hm : m ≤ 1000000000000) (hk : k ≤ 1000000000000) (hL : IntsAt w aL c.n c.L) (hV : SpansAt w aV m c.A c.B) (hM : IntsAt w aM k M)
include hn hm hk hL hV hM

theorem run_err (x : Int) (hx : runErr m c p M k = x) (h0 : x ≠ 0) :
    Calls Try.prog 17 #[.agg #[.slice aL c.n cL, .slice aV m cV], .agg #[.int .i64 p.v, .int .i64 p.lo, .int .i64 p.hi], .slice aM k cM] w fun e w' =>
      e = .returned (.tuple #[.slice none 0 0, .agg #[.int .i64 0, .int .i64 0, .int .i64 0], .int .i64 x]) ∧ Below w.heap.size w w' := by
  unfold runErr at hx
  split at hx
  · exact run_early aL aV aM c.n m cL cV k cM c.L c.A c.B p.v p.lo p.hi w hn hm hk hL hV x hx (by simpa using h0)
  · rename_i hE
    have hE : earlyE c.n m c.L c.A c.B p.v p.lo p.hi k = 0 := Decidable.byContradiction hE
    split at hx
    · rename_i hs
      obtain ⟨k64, rfl, g, p0, p1, p2, p3⟩ := early_zero hE
      have two := g.two
      rcases hL with h | ⟨b, off, rfl, hb, hls⟩
      · omega
      rcases hV with h | ⟨bv, offv, rfl, hbv, hvs⟩
      · omega
      obtain ⟨bm, offm, ha, hbm, hms⟩ := ints_some hM (by omega)
      have := runMain_in 3 aM b off bv offv cL cV bm offm k cM c p M (c.stop p M k) (by omega) hn k64 (c.stop_le p M k) g (potAt_ok g ⟨p0, p1, p2, p3⟩) (fun j hj => c.stop_lt p M k j hj) (c.stop_bad p M k) ha w ⟨hb, hbv, hls, hvs⟩ hbm hms hE
      refine (callsIn_wide.1 this).mono ?_
      rintro e w' ⟨h1, ⟨h2, _⟩ | ⟨_, h2⟩⟩
      · omega
      · exact ⟨by rw [h2, hx], h1⟩
    · omega

omit hk in
theorem run_ok (hx : runErr m c p M k = 0) :
    Calls Try.prog 17 #[.agg #[.slice aL c.n cL, .slice aV m cV], .agg #[.int .i64 p.v, .int .i64 p.lo, .int .i64 p.hi], .slice aM k cM] w fun e w' =>
      ∃ v, e = .returned (.tuple #[v, .agg #[.int .i64 (c.potAt p M k).v, .int .i64 (c.potAt p M k).lo, .int .i64 (c.potAt p M k).hi], .int .i64 0]) ∧ w'.ownsRow w.heap.size 41 3 v k (c.outs p M k) ∧ Below w.heap.size w w' := by
  unfold runErr at hx
  split at hx
  · rename_i h; exact absurd hx h
  · rename_i hE
    have hE : earlyE c.n m c.L c.A c.B p.v p.lo p.hi k = 0 := Decidable.byContradiction hE
    split at hx
    · rename_i hs; exact absurd hx (c.stop_bad p M k hs)
    · rename_i hs
      obtain ⟨k64, rfl, g, p0, p1, p2, p3⟩ := early_zero hE
      have two := g.two
      rcases hL with h | ⟨b, off, rfl, hb, hls⟩
      · omega
      rcases hV with h | ⟨bv, offv, rfl, hbv, hvs⟩
      · omega
      obtain ⟨bm, offm, ha, hbm, hms⟩ := ints_some hM (by omega)
      have := runMain_in 3 aM b off bv offv cL cV bm offm k cM c p M (c.stop p M k) (by omega) hn k64 (c.stop_le p M k) g (potAt_ok g ⟨p0, p1, p2, p3⟩) (fun j hj => c.stop_lt p M k j hj) (c.stop_bad p M k) ha w ⟨hb, hbv, hls, hvs⟩ hbm hms hE
      refine (callsIn_wide.1 this).mono ?_
      rintro e w' ⟨h1, ⟨_, v, h2, h3⟩ | ⟨h2, _⟩⟩
      · exact ⟨v, h2, h3, h1⟩
      · omega
end

theorem run_zero {m : Nat} {c : Crv} {p : Pot3} {M : Nat → Int} {k : Nat} (hx : runErr m c p M k = 0) : earlyE c.n m c.L c.A c.B p.v p.lo p.hi k = 0 ∧ k ≤ 64 ∧ m = c.n ∧ Good c.n c.L c.A c.B ∧ p.ok ∧ (∀ j, j < k → c.errAt p M j = 0) ∧ ∀ j, j ≤ k → (c.potAt p M j).ok := by
  unfold runErr at hx
  split at hx
  · rename_i h; exact absurd hx h
  · rename_i hE
    have hE : earlyE c.n m c.L c.A c.B p.v p.lo p.hi k = 0 := Decidable.byContradiction hE
    split at hx
    · rename_i hs; exact absurd hx (c.stop_bad p M k hs)
    · rename_i hs
      obtain ⟨k64, e, g, p0, p1, p2, p3⟩ := early_zero hE
      have e2 : c.stop p M k = k := by have := c.stop_le p M k; omega
      exact ⟨hE, k64, e, g, ⟨p0, p1, p2, p3⟩, fun j hj => c.stop_lt p M k j (by omega), fun j hj => potAt_ok (k := k) g ⟨p0, p1, p2, p3⟩ j (by omega)⟩
end Go.Proofs.Ytnmldophadanbaa
