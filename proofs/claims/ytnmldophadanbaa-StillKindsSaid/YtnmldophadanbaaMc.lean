/- Plain law: a run that is cut in two. No conditions beyond each theorem's own. -/
import Derived.Test.YtnmldophadanbaaKo
set_option linter.unusedVariables false
set_option linter.unusedSimpArgs false
set_option linter.unusedSectionVars false
set_option linter.constructorNameAsVariable false
namespace Go.Proofs.Ytnmldophadanbaa

theorem Crv.pot_cut (c : Crv) (p : Pot3) (M : Nat → Int) (a : Nat) : ∀ j, c.potAt (c.potAt p M a) (fun i => M (a + i)) j = c.potAt p M (a + j)
  | 0 => rfl
  | j + 1 => by
    show c.next (c.potAt (c.potAt p M a) (fun i => M (a + i)) j) (M (a + j)) = c.next (c.potAt p M (a + j)) (M (a + j))
    rw [c.pot_cut p M a j]
theorem Crv.outs_cut (c : Crv) (p : Pot3) (M : Nat → Int) (a : Nat) : ∀ j, c.outs p M a ++ c.outs (c.potAt p M a) (fun i => M (a + i)) j = c.outs p M (a + j)
  | 0 => by simp [Crv.outs]
  | j + 1 => by
    rw [c.outs_succ, show a + (j + 1) = a + j + 1 from rfl, c.outs_succ, ← c.outs_cut p M a j, List.append_assoc]
    congr 2
    unfold Crv.outAt
    rw [c.pot_cut]

theorem zero_run {c : Crv} {p : Pot3} {M : Nat → Int} {k : Nat} (hE : earlyE c.n c.n c.L c.A c.B p.v p.lo p.hi k = 0) (h : ∀ j, j < k → c.errAt p M j = 0) : runErr c.n c p M k = 0 := by
  unfold runErr
  rw [if_neg (by omega)]
  split
  · rename_i hs
    exact absurd (h _ hs) (c.stop_bad p M k hs)
  · rfl
theorem early_ok {c : Crv} {p q : Pot3} {k j : Nat} (h : earlyE c.n c.n c.L c.A c.B p.v p.lo p.hi k = 0) (hq : q.ok) (hj : j ≤ 64) : earlyE c.n c.n c.L c.A c.B q.v q.lo q.hi j = 0 := by
  obtain ⟨q0, q1, q2, q3⟩ := hq
  unfold earlyE at h ⊢
  rw [if_neg (by omega)]
  split at h
  · omega
  · split at h
    · rename_i hc
      simp only [Bool.and_eq_true] at hc
      rw [hc.1, show potB q.v q.lo q.hi = true by unfold potB; rw [inB_t.2 ⟨by omega, by omega⟩, spanB_t.2 ⟨by omega, by omega, by omega⟩]; rfl]
      rfl
    · omega
theorem run_first {c : Crv} {p : Pot3} {M : Nat → Int} {k a : Nat} (h : runErr c.n c p M k = 0) (ha : a ≤ k) : runErr c.n c p M a = 0 := by
  obtain ⟨hE, k64, _, g, hp, hgo, hok⟩ := run_zero h
  exact zero_run (early_ok hE hp (by omega)) fun j hj => hgo j (by omega)
theorem run_second {c : Crv} {p : Pot3} {M : Nat → Int} {k a : Nat} (h : runErr c.n c p M k = 0) (ha : a ≤ k) : runErr c.n c (c.potAt p M a) (fun i => M (a + i)) (k - a) = 0 := by
  obtain ⟨hE, k64, _, g, hp, hgo, hok⟩ := run_zero h
  refine zero_run (early_ok hE (hok a ha) (by omega)) fun j hj => ?_
  have := hgo (a + j) (by omega)
  unfold Crv.errAt at this ⊢
  rw [c.pot_cut]; exact this
end Go.Proofs.Ytnmldophadanbaa
