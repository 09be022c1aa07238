/- Plain laws: hours that are taken in two parts. No conditions beyond each theorem's own. -/
import Derived.Test.YtecbacbecopbeaaEa
set_option linter.unusedVariables false
set_option linter.unusedSimpArgs false
set_option linter.unusedSectionVars false
set_option linter.constructorNameAsVariable false
namespace Go.Proofs.Ytecbacbecopbeaa
open Go.RowKit Go

theorem vs_add (y : Yst) (v : Vat) (F G : Nat → Int) (j : Nat) : ∀ i, y.vs v F G (j + i) = y.vs (y.vs v F G j) (fun t => F (j + t)) (fun t => G (j + t)) i
  | 0 => rfl
  | i + 1 => by
    show y.hour (y.vs v F G (j + i)) (F (j + i)) (G (j + i)) = y.hour (y.vs (y.vs v F G j) _ _ i) (F (j + i)) (G (j + i))
    rw [vs_add y v F G j i]
theorem ferE_pre {y : Yst} {v : Vat} {k : Nat} {F G : Nat → Int} (h0 : ferE y v k F G = 0) {j : Nat} (hj : j ≤ k) : ferE y v j F G = 0 := by
  obtain ⟨hk, hB, hv, hC, hV⟩ := ferE_zero h0
  exact ferE_ok (by omega) hB (allB_t.2 fun i hi => allB_t.1 hC i (by omega)) (fun i hi => hV i (by omega))
theorem ferE_rest {y : Yst} {v : Vat} {k : Nat} {F G : Nat → Int} (h0 : ferE y v k F G = 0) {j : Nat} (hj : j ≤ k) : ferE y (y.vs v F G j) (k - j) (fun t => F (j + t)) (fun t => G (j + t)) = 0 := by
  obtain ⟨hk, hB, hv, hC, hV⟩ := ferE_zero h0
  exact ferE_ok (by omega) hB (allB_t.2 fun i hi => allB_t.1 hC (j + i) (by omega)) (fun i hi => by rw [← vs_add]; exact hV (j + i) (by omega))
theorem tupsV_congr {c n : Nat} {A B : Nat → Nat → Int} (h : ∀ i, i < n → ∀ q, q < c → A i q = B i q) : tupsV c n A = tupsV c n B := by
  unfold tupsV
  refine List.map_congr_left fun j hj => ?_
  have hj := List.mem_range.1 hj
  have hc : 0 < c := by rcases Nat.eq_zero_or_pos c with h0 | h0; (· subst h0; simp at hj); (· exact h0)
  rw [h (j / c) ((Nat.div_lt_iff_lt_mul hc).2 hj) (j % c) (Nat.mod_lt j hc)]
theorem tupsV_append (c n : Nat) (A B : Nat → Nat → Int) : ∀ m, tupsV c n A ++ tupsV c m B = tupsV c (n + m) (fun i q => if i < n then A i q else B (i - n) q)
  | 0 => by
    rw [show tupsV c 0 B = [] by unfold tupsV; simp, List.append_nil]
    exact tupsV_congr fun i hi q _ => by simp [show i < n from hi]
  | m + 1 => by
    rw [tupsV_succ, ← List.append_assoc, tupsV_append c n A B m, ← Nat.add_assoc, tupsV_succ]
    simp [show ¬ n + m < n by omega]
theorem outs_cut (y : Yst) (v : Vat) (F G : Nat → Int) {j k : Nat} (hj : j ≤ k) : y.outs v F G j ++ tupsV 13 (k - j) (fun i q => (y.vs (y.vs v F G j) (fun t => F (j + t)) (fun t => G (j + t)) (i + 1)).num q) = tupsV 13 k (fun i q => (y.vs v F G (i + 1)).num q) := by
  unfold Yst.outs
  rw [tupsV_append, show j + (k - j) = k by omega]
  refine tupsV_congr fun i hi q _ => ?_
  by_cases h : i < j
  · rw [if_pos h]
  · rw [if_neg h, ← vs_add, show j + (i - j + 1) = i + 1 by omega]
theorem spans_pre {w : World} {a : Option Addr} {k j : Nat} {F G : Nat → Int} (h : SpansAt w a k F G) (hj : j ≤ k) : SpansAt w a j F G := by
  rcases h with h | ⟨b, off, rfl, lb, hc⟩
  · exact .inl (by omega)
  · exact .inr ⟨b, off, rfl, lb, fun i hi => hc i (by omega)⟩
/-- the first spans of a slice -/
theorem span_first {P : Program} {t : TypeId} (ht : P.underlying t = some (.slice (P.elem t))) (hs : ∀ w, (sizeOf (P.elem t)).run P w = .ok 2 w) {W : World} {aM : Option Addr} {k cM : Nat} {F G : Nat → Int} (h : SpansAt W aM k F G) (hk : k ≤ cM) (A : Nat) (hA : A ≤ k) :
    ∃ a', (∀ w, (Instr.slice t (.slice aM k cM) none (some (.int .i64 A)) none).run P w = .ok (.slice a' A cM) w) ∧ SpansAt W a' A F G := by
  refine ⟨if cM = 0 then aM else aM.map (·.add (0 * 2)), fun w => ?_, ?_⟩
  · rw [run_slice_h w t aM k cM ht .i64 A (by omega) (by omega), hs w]
    simp [Result.andThen, sliced]
  · rcases h with h | ⟨b, off, rfl, hlt, hc⟩
    · exact .inl (by omega)
    · by_cases h0 : A = 0
      · exact .inl h0
      · rw [if_neg (by omega)]
        exact .inr ⟨b, off, by simp [WideShapes.add_plain], hlt, fun i hi => hc i (by omega)⟩
/-- the rest of a slice of spans -/
theorem span_rest {P : Program} {t : TypeId} (ht : P.underlying t = some (.slice (P.elem t))) (hs : ∀ w, (sizeOf (P.elem t)).run P w = .ok 2 w) {W : World} {aM : Option Addr} {k cM : Nat} {F G : Nat → Int} (h : SpansAt W aM k F G) (hk : k ≤ cM) (A : Nat) (hA : A ≤ k) :
    ∃ a', (∀ w, (Instr.slice t (.slice aM k cM) (some (.int .i64 A)) none none).run P w = .ok (.slice a' (k - A) (cM - A)) w) ∧ SpansAt W a' (k - A) (fun i => F (A + i)) (fun i => G (A + i)) := by
  refine ⟨if cM = A then aM else aM.map (·.add (A * 2)), fun w => ?_, ?_⟩
  · rw [run_slice_l w t aM k cM ht .i64 A (by omega) (by omega), hs w]
    simp [Result.andThen, sliced]
  · by_cases h0 : k - A = 0
    · exact .inl h0
    · rw [if_neg (by omega)]
      rcases h with h | ⟨b, off, rfl, hlt, hc⟩
      · exact .inl (by omega)
      · refine .inr ⟨b, off + A * 2, by simp [WideShapes.add_plain], hlt, fun i hi => ?_⟩
        have := hc (A + i) (by omega)
        rwa [Nat.add_mul, ← Nat.add_assoc] at this
end Go.Proofs.Ytecbacbecopbeaa
