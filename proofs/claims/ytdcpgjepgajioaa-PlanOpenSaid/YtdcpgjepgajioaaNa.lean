/- Plain: the search finds the first of the cheapest lots; lots in order. No conditions beyond each theorem's own. -/
import Derived.Test.YtdcpgjepgajioaaLc
import Derived.Test.YtdcpgjepgajioaaBx
set_option linter.unusedVariables false
set_option linter.unusedSimpArgs false
set_option linter.unusedSectionVars false
set_option linter.constructorNameAsVariable false
namespace Go.Proofs.Ytdcpgjepgajioaa
open Go.RowKit

/-- one list of lots comes before another one -/
def befL (p q : List Nat) : Bool := befB (lotF p) (lotF q) p.length 0
theorem befB_self (A : Nat → Int) : ∀ k i, befB A A k i = false
  | 0, _ => rfl
  | k + 1, i => by show (if A i = A i then befB A A k (i + 1) else _) = false; rw [if_pos rfl]; exact befB_self A k (i + 1)
theorem befB_late {A B : Nat → Int} {j : Nat} (h1 : ∀ u, u < j → A u = B u) (h2 : B j < A j) : ∀ (k i : Nat), i ≤ j → j < i + k → befB A B k i = false
  | 0, i, h, g => by omega
  | k + 1, i, h, g => by
    unfold befB
    by_cases e : i = j
    · subst e
      rw [if_neg (by omega)]
      exact decide_eq_false (by omega)
    · rw [if_pos (h1 i (by omega))]
      exact befB_late h1 h2 k (i + 1) (by omega) (by omega)
theorem plan_sorted {M : Nat → Int} : ∀ (h : Nat) (now : List Nat), (planL M h now).Pairwise fun p q => befL q p = false
  | 0, now => by simp [planL]
  | h + 1, now => by
    have step : ∀ n, (planN M h now n).Pairwise fun p q => befL q p = false := fun n => by
      induction n with
      | zero => exact List.Pairwise.nil
      | succ n ih =>
        rw [planN_succ, List.pairwise_append]
        refine ⟨ih, plan_sorted h (now ++ [n]), fun p hp q hq => ?_⟩
        simp only [planN, List.mem_flatMap, List.mem_range] at hp
        obtain ⟨j, hj, hp⟩ := hp
        obtain ⟨r, rfl, hr, _⟩ := mem_plan h hp
        obtain ⟨s, rfl, hs, _⟩ := mem_plan h hq
        unfold befL
        refine befB_late (j := now.length) (fun u hu => ?_) ?_ _ 0 (Nat.zero_le _) (by simp)
        · rw [List.append_assoc, List.append_assoc, lotF_app hu, lotF_app hu]
        · rw [lotF_at, lotF_at]; omega
    exact step (M now.length + 1).toNat
theorem bestF_low {ok : List Nat → Bool} {cost : List Nat → Int} : ∀ (ps : List (List Nat)) (z x : List Nat × Int), bestF ok cost ps (some z) = some x → x = z ∨ x.2 < z.2
  | [], z, x, h => .inl (by cases h; rfl)
  | p :: ps, z, x, h => by
    have h' : bestF ok cost ps (bestS ok cost (some z) p) = some x := h
    unfold bestS at h'
    split at h'
    · exact bestF_low ps z x h'
    · rename_i hn
      split at h'
      · rcases bestF_low ps _ x h' with e | e
        · right; rw [e]; simp only [stopB, decide_eq_true_eq] at hn; show cost p < z.2; omega
        · right; simp only [stopB, decide_eq_true_eq] at hn; have e2 : x.2 < cost p := e; omega
      · exact bestF_low ps z x h'
/-- none that costs as much comes before -/
theorem bestF_first {ok : List Nat → Bool} {cost : List Nat → Int} : ∀ (ps : List (List Nat)) (st : St) (x : List Nat × Int), ps.Pairwise (fun p q => befL q p = false) → (∀ z, st = some z → ∀ p ∈ ps, befL p z.1 = false) → bestF ok cost ps st = some x → ∀ q ∈ ps, ok q = true → cost q = x.2 → befL q x.1 = false
  | [], st, x, _, _, _, q, hq, _, _ => by cases hq
  | p :: ps, st, x, hs, hz, h, q, hq, hok, hc => by
    obtain ⟨hs1, hs2⟩ := List.pairwise_cons.1 hs
    have h' : bestF ok cost ps (bestS ok cost st p) = some x := h
    have nx : ∀ z, bestS ok cost st p = some z → ∀ r ∈ ps, befL r z.1 = false := fun z hz' r hr => by
      unfold bestS at hz'
      split at hz'
      · exact hz z hz' r (List.mem_cons_of_mem _ hr)
      · split at hz'
        · cases hz'; exact hs1 r hr
        · exact hz z hz' r (List.mem_cons_of_mem _ hr)
    rcases List.mem_cons.1 hq with rfl | hq
    · unfold bestS at h'
      split at h'
      · rename_i hstop
        cases st with
        | none => cases hstop
        | some z =>
          rcases bestF_low ps z x h' with e | e
          · rw [e]; exact hz z rfl q (by simp)
          · simp only [stopB, decide_eq_true_eq] at hstop; omega
      · rcases bestF_low ps _ x h' with e | e
        · rw [e]; exact befB_self _ _ _
        · have e2 : x.2 < cost q := e
          omega
    · exact bestF_first ps _ x hs2 nx h' q hq hok hc
theorem mem_plan_of {M : Nat → Int} : ∀ (h : Nat) (now r : List Nat), r.length = h → (∀ t, now.length ≤ t → t < now.length + h → lotF (now ++ r) t ≤ M t) → now ++ r ∈ planL M h now
  | 0, now, r, hr, _ => by
    have : r = [] := List.eq_nil_of_length_eq_zero hr
    simp [planL, this]
  | h + 1, now, r, hr, hv => by
    match r, hr with
    | n :: r, hr =>
      simp only [planL, List.mem_flatMap, List.mem_range]
      have e : now ++ n :: r = now ++ [n] ++ r := by simp
      refine ⟨n, ?_, ?_⟩
      · have := hv now.length (Nat.le_refl _) (by omega)
        rw [e, lotF_at] at this
        omega
      · rw [e]
        exact mem_plan_of h (now ++ [n]) r (by simpa using hr) (fun t h1 h2 => by rw [← e]; simp at h1 h2; exact hv t (by omega) (by omega))
theorem mem_plans {M : Nat → Int} {p : List Nat} (hv : ∀ t, t < p.length → lotF p t ≤ M t) : p ∈ planL M p.length [] := by
  have := mem_plan_of p.length [] p rfl (fun t _ h2 => hv t (by simpa using h2))
  simpa using this
section
variable {o : Otl} {y : Lyg} {wt : Nat → Int} (hB : outB o = true) (hLB : layB o y = true) (hw : ∀ t, t < y.nM → 0 ≤ wt t)
include hB hLB hw
theorem find_least {x : List Nat × Int} (h : findF o y wt = some x) {q : List Nat} (hq : q ∈ planL y.M y.nM []) (hk : keepB o y q = true) : x.2 ≤ costW wt q ∧ (costW wt q = x.2 → befL q x.1 = false) := by
  rw [find_best hB hLB hw] at h
  exact ⟨((bestF_spec (ok := keepB o y) (cost := costW wt) (planL y.M y.nM []) none (fun x h => by cases h)).1 x h).2.2.1 q hq hk,
    bestF_first _ none x (plan_sorted _ _) (fun z hz => by cases hz) h q hq hk⟩
theorem find_none (h : findF o y wt = none) {q : List Nat} (hq : q ∈ planL y.M y.nM []) : keepB o y q = false := by
  rw [find_best hB hLB hw] at h
  exact ((bestF_spec (ok := keepB o y) (cost := costW wt) (planL y.M y.nM []) none (fun x h => by cases h)).2 h).2 q hq
end
/-- both searches find or neither does -/
theorem find_both {o : Otl} {y : Lyg} {w1 w2 : Nat → Int} (hB : outB o = true) (hLB : layB o y = true) (h1 : ∀ t, t < y.nM → 0 ≤ w1 t) (h2 : ∀ t, t < y.nM → 0 ≤ w2 t) (hn : findF o y w1 = none) : findF o y w2 = none := by
  cases h : findF o y w2 with
  | none => rfl
  | some x =>
    obtain ⟨a, b, c, d, e⟩ := find_ok hB hLB h2 h
    rw [find_none hB hLB h1 hn e] at c
    cases c
theorem chE_both {o : Otl} {y : Lyg} : chE o y y.R = chE o y (fun _ => 1) := by
  unfold chE
  by_cases h : outB o = true ∧ layB o y = true
  · have hR : ∀ t, t < y.nM → 0 ≤ y.R t := fun t ht => ((layB_t h.2).2.2.1 t (by have a := layB_t h.2; have := a.1; have := a.2.1; omega)).1
    rw [if_pos h, if_pos h]
    cases h1 : findF o y y.R with
    | none => rw [find_both h.1 h.2 hR (fun t _ => by decide) h1]
    | some x =>
      cases h2 : findF o y (fun _ => 1) with
      | none => rw [find_both h.1 h.2 (fun t _ => by decide) hR h2] at h1; cases h1
      | some z => rfl
  · rw [if_neg h, if_neg h]
end Go.Proofs.Ytdcpgjepgajioaa
