/- Plain laws of Cool: the search with its best so far finds the first choices of the least sum. No conditions beyond each theorem's own. -/
import Derived.Test.YtecbacbecopbeaaBo
import Derived.Test.YtecbacbecopbeaaBw
set_option linter.unusedVariables false
set_option linter.unusedSimpArgs false
set_option linter.unusedSectionVars false
set_option linter.constructorNameAsVariable false
namespace Go.Proofs.Ytecbacbecopbeaa
open Go.RowKit

/-- the first choice that something goes on from -/
def firstC (f : Nat → Option (List Nat)) : Nat → Option (List Nat)
  | 0 => none
  | n + 1 => match firstC f n with
    | some l => some l
    | none => (f n).map (n :: ·)
def loopF {S : Type} (f : Nat → S → S) : Nat → S → S
  | 0, st => st
  | n + 1, st => f n (loopF f n st)
structure Ctx where
  y : Yst
  k : Nat
  F : Nat → Int
  G : Nat → Int
  ll : Int
  lh : Int
def Ctx.next (c : Ctx) (v : Vat) (i : Nat) : Vat := c.y.hour v (c.F i) (c.G i)
def Ctx.ok (c : Ctx) (v : Vat) (i : Nat) : Bool := vatB (c.next v i) && insB (c.next v i).tl (c.next v i).th c.ll c.lh
def Ctx.cools (c : Ctx) : Nat → Vat → Nat → Option (List Nat)
  | 0, _, s => if s = 0 then some [] else none
  | h + 1, v, s => firstC (fun i => if i ≤ s ∧ c.ok v i = true then c.cools h (c.next v i) (s - i) else none) c.k
def Ctx.tryF (c : Ctx) : Nat → Vat → Nat → List Nat → List Nat × Nat → List Nat × Nat
  | 0, _, sum, now, st => if st.2 ≤ sum then st else (now, sum)
  | h + 1, v, sum, now, st => if st.2 ≤ sum then st else loopF (fun i st => if c.ok v i = true then c.tryF h (c.next v i) (sum + i) (now ++ [i]) st else st) c.k st

theorem firstC_some {f : Nat → Option (List Nat)} : ∀ {n l}, firstC f n = some l → ∃ i r, i < n ∧ f i = some r ∧ l = i :: r ∧ ∀ j, j < i → f j = none
  | 0, l, h => by simp [firstC] at h
  | n + 1, l, h => by
    unfold firstC at h
    cases hf : firstC f n with
    | some l' =>
      rw [hf] at h
      simp only [Option.some.injEq] at h
      subst h
      obtain ⟨i, r, h1, h2, h3, h4⟩ := firstC_some hf
      exact ⟨i, r, by omega, h2, h3, h4⟩
    | none =>
      rw [hf] at h
      simp only [Option.map_eq_some_iff] at h
      obtain ⟨r, h1, h2⟩ := h
      refine ⟨n, r, by omega, h1, h2.symm, fun j hj => ?_⟩
      exact firstC_none hf j hj
where
  firstC_none {f : Nat → Option (List Nat)} : ∀ {n}, firstC f n = none → ∀ j, j < n → f j = none
  | 0, _, j, hj => by omega
  | n + 1, h, j, hj => by
    unfold firstC at h
    cases hf : firstC f n with
    | some l => rw [hf] at h; cases h
    | none =>
      rw [hf] at h
      simp only [Option.map_eq_none_iff] at h
      by_cases e : j = n
      · rw [e]; exact h
      · exact firstC_none hf j (by omega)
theorem firstC_none {f : Nat → Option (List Nat)} {n : Nat} (h : firstC f n = none) : ∀ j, j < n → f j = none := firstC_some.firstC_none h
theorem firstC_of_none {f : Nat → Option (List Nat)} : ∀ {n}, (∀ j, j < n → f j = none) → firstC f n = none
  | 0, _ => rfl
  | n + 1, h => by
    unfold firstC
    rw [firstC_of_none (fun j hj => h j (by omega)), h n (by omega)]
    rfl
theorem firstC_at {f : Nat → Option (List Nat)} {r : List Nat} {i : Nat} : ∀ {n}, i < n → f i = some r → (∀ j, j < i → f j = none) → firstC f n = some (i :: r)
  | 0, h, _, _ => by omega
  | n + 1, h, h1, h2 => by
    unfold firstC
    by_cases e : i = n
    · subst e; rw [firstC_of_none h2, h1]; rfl
    · rw [firstC_at (by omega) h1 h2]

/-- the best so far behind a search, out of what was before it -/
def Best (P : Nat → Option (List Nat)) (now : List Nat) (sum : Nat) (st st' : List Nat × Nat) : Prop :=
  (st' = st ∧ ∀ s, sum + s < st.2 → P s = none) ∨ ∃ s l, P s = some l ∧ (∀ t, t < s → P t = none) ∧ sum + s < st.2 ∧ st' = (now ++ l, sum + s)
theorem try_best (c : Ctx) : ∀ (h : Nat) (v : Vat) (sum : Nat) (now : List Nat) (st : List Nat × Nat), Best (c.cools h v) now sum st (c.tryF h v sum now st)
  | 0, v, sum, now, st => by
    unfold Ctx.tryF
    by_cases hs : st.2 ≤ sum
    · rw [if_pos hs]
      exact .inl ⟨rfl, fun s h => by omega⟩
    · rw [if_neg hs]
      exact .inr ⟨0, [], rfl, fun t h => by omega, by omega, by simp⟩
  | h + 1, v, sum, now, st => by
    unfold Ctx.tryF
    by_cases hs : st.2 ≤ sum
    · rw [if_pos hs]
      exact .inl ⟨rfl, fun s h => by omega⟩
    · rw [if_neg hs]
      have key : ∀ n, Best (fun s => firstC (fun i => if i ≤ s ∧ c.ok v i = true then c.cools h (c.next v i) (s - i) else none) n) now sum st (loopF (fun i st => if c.ok v i = true then c.tryF h (c.next v i) (sum + i) (now ++ [i]) st else st) n st) := by
        intro n
        induction n with
        | zero => exact .inl ⟨rfl, fun s _ => rfl⟩
        | succ n ih =>
          have hl : loopF (fun i st => if c.ok v i = true then c.tryF h (c.next v i) (sum + i) (now ++ [i]) st else st) (n + 1) st = (fun st => if c.ok v n = true then c.tryF h (c.next v n) (sum + n) (now ++ [n]) st else st) (loopF (fun i st => if c.ok v i = true then c.tryF h (c.next v i) (sum + i) (now ++ [i]) st else st) n st) := rfl
          rw [hl]
          generalize loopF (fun i st => if c.ok v i = true then c.tryF h (c.next v i) (sum + i) (now ++ [i]) st else st) n st = sn at ih ⊢
          have hP : ∀ s, firstC (fun i => if i ≤ s ∧ c.ok v i = true then c.cools h (c.next v i) (s - i) else none) (n + 1) = match firstC (fun i => if i ≤ s ∧ c.ok v i = true then c.cools h (c.next v i) (s - i) else none) n with
              | some l => some l
              | none => (if n ≤ s ∧ c.ok v n = true then c.cools h (c.next v n) (s - n) else none).map (n :: ·) := fun s => rfl
          simp only [hP]
          generalize hQ : (fun s => firstC (fun i => if i ≤ s ∧ c.ok v i = true then c.cools h (c.next v i) (s - i) else none) n) = Q at ih
          have hQ' : ∀ s, firstC (fun i => if i ≤ s ∧ c.ok v i = true then c.cools h (c.next v i) (s - i) else none) n = Q s := fun s => by rw [← hQ]
          simp only [hQ']
          by_cases hok : c.ok v n = true
          · have hb := try_best c h (c.next v n) (sum + n) (now ++ [n]) sn
            simp only [hok, if_true, and_true]
            generalize c.tryF h (c.next v n) (sum + n) (now ++ [n]) sn = sx at hb ⊢
            rcases ih with ⟨rfl, hn⟩ | ⟨s, l, h1, h2, h3, rfl⟩
            · rcases hb with ⟨rfl, hm⟩ | ⟨s', l', g1, g2, g3, rfl⟩
              · refine .inl ⟨rfl, fun s hs' => ?_⟩
                try dsimp only
                rw [hn s hs']
                by_cases hns : n ≤ s
                · rw [if_pos hns, hm (s - n) (by omega)]; rfl
                · rw [if_neg hns]; rfl
              · refine .inr ⟨n + s', n :: l', ?_, fun t ht => ?_, by omega, by simp; omega⟩
                · try dsimp only
                  rw [hn (n + s') (by omega), if_pos (by omega), show n + s' - n = s' by omega, g1]; rfl
                · try dsimp only
                  rw [hn t (by omega)]
                  by_cases hns : n ≤ t
                  · rw [if_pos hns, g2 (t - n) (by omega)]; rfl
                  · rw [if_neg hns]; rfl
            · rcases hb with ⟨rfl, hm⟩ | ⟨s', l', g1, g2, g3, rfl⟩
              · refine .inr ⟨s, l, by dsimp only; rw [h1], fun t ht => ?_, h3, rfl⟩
                try dsimp only
                rw [h2 t ht]
                by_cases hns : n ≤ t
                · rw [if_pos hns, hm (t - n) (by simp only; omega)]; rfl
                · rw [if_neg hns]; rfl
              · simp only at g3
                refine .inr ⟨n + s', n :: l', ?_, fun t ht => ?_, by omega, by simp; omega⟩
                · try dsimp only
                  rw [h2 (n + s') (by omega), if_pos (by omega), show n + s' - n = s' by omega, g1]; rfl
                · try dsimp only
                  rw [h2 t (by omega)]
                  by_cases hns : n ≤ t
                  · rw [if_pos hns, g2 (t - n) (by omega)]; rfl
                  · rw [if_neg hns]; rfl
          · simp only [hok, if_false, and_false, Option.map_none]
            have e2 : ∀ P' : Nat → Option (List Nat), (∀ s, P' s = Q s) → Best P' now sum st sn := fun P' h => by rw [show P' = Q from funext h]; exact ih
            exact e2 _ (fun s => by cases Q s <;> simp)
      exact key c.k

/-- what choices are: as many as hours, each one of the choices, their sum; each vat behind them within limits -/
def Ctx.run (c : Ctx) : Vat → List Nat → Prop
  | _, [] => True
  | v, i :: r => i < c.k ∧ c.ok v i = true ∧ c.run (c.next v i) r
theorem cools_some (c : Ctx) : ∀ (h : Nat) (v : Vat) (s : Nat) (l : List Nat), c.cools h v s = some l → l.length = h ∧ l.sum = s ∧ c.run v l
  | 0, v, s, l, hl => by
    unfold Ctx.cools at hl
    split at hl
    · cases hl; simp [Ctx.run, *]
    · cases hl
  | h + 1, v, s, l, hl => by
    unfold Ctx.cools at hl
    obtain ⟨i, r, h1, h2, rfl, _⟩ := firstC_some hl
    split at h2
    · rename_i hc
      obtain ⟨g1, g2, g3⟩ := cools_some c h _ _ _ h2
      exact ⟨by simp [g1], by simp [g2]; omega, h1, hc.2, g3⟩
    · cases h2
theorem run_sum (c : Ctx) : ∀ (v : Vat) (l : List Nat), c.run v l → l.sum + l.length ≤ l.length * c.k
  | _, [], _ => by simp
  | v, i :: r, h => by
    have := run_sum c _ r h.2.2
    have := h.1
    simp only [List.sum_cons, List.length_cons, Nat.succ_mul]
    omega
/-- the first of the least sum, in order: none is before it -/
theorem cools_none (c : Ctx) : ∀ (h : Nat) (v : Vat) (s : Nat), c.cools h v s = none → ∀ l, l.length = h → l.sum = s → ¬ c.run v l
  | 0, v, s, hn, l, h1, h2, _ => by
    obtain rfl := List.eq_nil_of_length_eq_zero h1
    simp at h2
    subst h2
    unfold Ctx.cools at hn
    simp at hn
  | h + 1, v, s, hn, l, h1, h2, hr => by
    cases l with
    | nil => simp at h1
    | cons i r =>
      simp at h1 h2
      unfold Ctx.cools at hn
      have := firstC_none hn i hr.1
      rw [if_pos ⟨by omega, hr.2.1⟩] at this
      exact cools_none c h _ _ this r h1 (by omega) hr.2.2
def firstS (P : Nat → Option (List Nat)) : Nat → Option (List Nat)
  | 0 => none
  | n + 1 => match firstS P n with
    | some l => some l
    | none => P n
theorem firstS_none {P : Nat → Option (List Nat)} : ∀ {n}, (∀ s, s < n → P s = none) → firstS P n = none
  | 0, _ => rfl
  | n + 1, h => by
    unfold firstS
    rw [firstS_none (fun j hj => h j (by omega)), h n (by omega)]
theorem firstS_at {P : Nat → Option (List Nat)} {l : List Nat} {s : Nat} : ∀ {n}, s < n → P s = some l → (∀ t, t < s → P t = none) → firstS P n = some l
  | 0, h, _, _ => by omega
  | n + 1, h, h1, h2 => by
    unfold firstS
    by_cases e : s = n
    · subst e; rw [firstS_none h2, h1]
    · rw [firstS_at (by omega) h1 h2]
/-- what Cool finds -/
def Ctx.cool (c : Ctx) (v : Vat) (h : Nat) : Option (List Nat) := firstS (c.cools h v) (h * (c.k - 1) + 1)
theorem cool_best {c : Ctx} {v : Vat} {h : Nat} (hk : 1 ≤ c.k) : (∀ l, c.cool v h = some l → (c.tryF h v 0 [] ([], h * c.k + 1)).1 = l ∧ (c.tryF h v 0 [] ([], h * c.k + 1)).2 ≤ h * c.k) ∧ (c.cool v h = none → (c.tryF h v 0 [] ([], h * c.k + 1)).2 = h * c.k + 1) := by
  have hm : h * (c.k - 1) + h = h * c.k := by rw [← Nat.mul_succ]; congr 1; omega
  rcases try_best c h v 0 [] ([], h * c.k + 1) with ⟨e, hn⟩ | ⟨s, l, h1, h2, h3, e⟩
  · rw [e]
    have : c.cool v h = none := firstS_none fun s hs => hn s (by simp only; omega)
    refine ⟨fun l hl => (by rw [this] at hl; cases hl), fun _ => rfl⟩
  · rw [e]
    obtain ⟨g1, g2, g3⟩ := cools_some c h v s l h1
    have := run_sum c v l g3
    rw [g1, g2] at this
    have hc : c.cool v h = some l := firstS_at (by omega) h1 h2
    simp only at h3
    refine ⟨fun l' hl => ?_, fun hl => (by rw [hc] at hl; cases hl)⟩
    rw [hc] at hl
    cases hl
    simp only [List.nil_append]
    exact ⟨trivial, by omega⟩
end Go.Proofs.Ytecbacbecopbeaa
