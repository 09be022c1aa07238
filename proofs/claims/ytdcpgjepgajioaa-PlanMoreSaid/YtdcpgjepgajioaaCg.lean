/- Plain: the search finds the first cheapest of all lots that keep an outlook. No conditions beyond each theorem's own. -/
import Derived.Test.YtdcpgjepgajioaaCf
import Derived.Test.YtdcpgjepgajioaaBt
set_option linter.unusedVariables false
set_option linter.unusedSimpArgs false
set_option linter.unusedSectionVars false
set_option linter.constructorNameAsVariable false
namespace Go.Proofs.Ytdcpgjepgajioaa
open Go.RowKit

/-- the sum of weights -/
def costW (wt : Nat → Int) (l : List Nat) : Int := costN wt (lotF l) l.length
/-- do lots keep an outlook? -/
def keepB (o : Otl) (y : Lyg) (l : List Nat) : Bool := decide (keepsE o y l.length (lotF l) = 0)
/-- lots are looked at, one after the other -/
def bestS (ok : List Nat → Bool) (cost : List Nat → Int) (st : St) (p : List Nat) : St := if stopB (cost p) st = true then st else if ok p = true then some (p, cost p) else st
def bestF (ok : List Nat → Bool) (cost : List Nat → Int) (ps : List (List Nat)) (st : St) : St := ps.foldl (bestS ok cost) st
theorem bestF_app (ok : List Nat → Bool) (cost : List Nat → Int) (a b : List (List Nat)) (st : St) : bestF ok cost (a ++ b) st = bestF ok cost b (bestF ok cost a st) := List.foldl_append
theorem bestF_same {ok : List Nat → Bool} {cost : List Nat → Int} : ∀ {ps : List (List Nat)} {st : St}, (∀ p ∈ ps, stopB (cost p) st = true ∨ ok p = false) → bestF ok cost ps st = st
  | [], _, _ => rfl
  | p :: ps, st, h => by
    have e : bestS ok cost st p = st := by
      unfold bestS
      rcases h p (by simp) with h1 | h1
      · rw [if_pos h1]
      · by_cases h2 : stopB (cost p) st = true
        · rw [if_pos h2]
        · rw [if_neg h2, if_neg (by rw [h1]; decide)]
    show bestF ok cost ps (bestS ok cost st p) = st
    rw [e]
    exact bestF_same (fun q hq => h q (by simp [hq]))
theorem lotF_app {now r : List Nat} {t : Nat} (ht : t < now.length) : lotF (now ++ r) t = lotF now t := by simp [lotF, List.getD_eq_getElem?_getD, List.getElem?_append_left ht]
theorem lotF_at {now r : List Nat} {n : Nat} : lotF (now ++ [n] ++ r) now.length = n := by simp [lotF, List.getD_eq_getElem?_getD]
theorem lotF_end {now : List Nat} {n : Nat} : lotF (now ++ [n]) now.length = n := by have := @lotF_at now [] n; simpa using this
theorem lotF_pos (l : List Nat) (t : Nat) : 0 ≤ lotF l t := Int.natCast_nonneg _
theorem costN_congr {R L L' : Nat → Int} : ∀ k, (∀ u, u < k → L u = L' u) → costN R L k = costN R L' k
  | 0, _ => rfl
  | k + 1, h => by show costN R L k + R k * L k = costN R L' k + R k * L' k; rw [costN_congr k (fun u hu => h u (by omega)), h k (by omega)]
theorem costW_snoc (wt : Nat → Int) (now : List Nat) (n : Nat) : costW wt (now ++ [n]) = costW wt now + n * wt now.length := by
  unfold costW
  rw [List.length_append, List.length_singleton]
  show costN wt (lotF (now ++ [n])) now.length + wt now.length * lotF (now ++ [n]) now.length = _
  rw [lotF_end, costN_congr now.length (fun u hu => lotF_app hu), Int.mul_comm]
theorem costN_mono {R L : Nat → Int} {m : Nat} (hR : ∀ t, t < m → 0 ≤ R t) (hL : ∀ t, 0 ≤ L t) : ∀ k j, j + k ≤ m → costN R L j ≤ costN R L (j + k)
  | 0, _, _ => Int.le_refl _
  | k + 1, j, h => by
    have := costN_mono hR hL k j (by omega)
    have e := Int.mul_nonneg (hR (j + k) (by omega)) (hL (j + k))
    show _ ≤ costN R L (j + k) + R (j + k) * L (j + k)
    omega
theorem costW_pre {wt : Nat → Int} {now r : List Nat} (hw : ∀ t, t < (now ++ r).length → 0 ≤ wt t) : costW wt now ≤ costW wt (now ++ r) := by
  have a := costN_mono (L := lotF (now ++ r)) hw (fun t => lotF_pos _ t) r.length now.length (by simp)
  unfold costW
  rw [List.length_append]
  rw [costN_congr (L := lotF now) (L' := lotF (now ++ r)) now.length (fun u hu => (lotF_app hu).symm)]
  exact a
theorem mem_plan {M : Nat → Int} : ∀ (h : Nat) {now p : List Nat}, p ∈ planL M h now → ∃ r, p = now ++ r ∧ r.length = h ∧ ∀ t, now.length ≤ t → t < now.length + h → lotF p t ≤ M t
  | 0, now, p, hp => by
    have : p = now := by simpa [planL] using hp
    exact ⟨[], by simp [this], rfl, fun t h1 h2 => by omega⟩
  | h + 1, now, p, hp => by
    simp only [planL, List.mem_flatMap, List.mem_range] at hp
    obtain ⟨n, hn, hq⟩ := hp
    obtain ⟨r, rfl, h2, h3⟩ := mem_plan h hq
    refine ⟨n :: r, by simp, by simp [h2], fun t h4 h5 => ?_⟩
    by_cases e : t = now.length
    · subst e
      rw [lotF_at]
      omega
    · exact h3 t (by simp; omega) (by simp; omega)
theorem celAt_congr {o : Otl} {i : Nat} {lot : Int} {room : Int → Bool} {part : Int → Int} {L L' : Nat → Int} : ∀ t, (∀ u, u < t → L u = L' u) → o.celAt i L lot room part t = o.celAt i L' lot room part t
  | 0, _ => rfl
  | t + 1, h => by
    show lateF part (yearF o.A (o.V i t) o.nA (L t * lot) room (o.celAt i L lot room part t)).1 = lateF part (yearF o.A (o.V i t) o.nA (L' t * lot) room (o.celAt i L' lot room part t)).1
    rw [celAt_congr t (fun u hu => h u (by omega)), h t (by omega)]
theorem yrAt_congr {o : Otl} {i : Nat} {lot : Int} {room : Int → Bool} {part : Int → Int} {L L' : Nat → Int} (t : Nat) (h : ∀ u, u ≤ t → L u = L' u) : o.yrAt i L lot room part t = o.yrAt i L' lot room part t := by
  unfold Otl.yrAt
  rw [celAt_congr t (fun u hu => h u (by omega)), h t (Nat.le_refl _)]
theorem upto_all {f : Nat → Int} {m : Nat} : upto f m = m ↔ ∀ t, t < m → f t = 0 :=
  ⟨fun h t ht => upto_zero f m t (by omega), fun h => (upto_unique (Nat.le_refl _) h (fun hh => absurd hh (Nat.lt_irrefl _))).symm⟩
theorem pathE_zero {o : Otl} {y : Lyg} {m : Nat} {L : Nat → Int} {i : Nat} : o.pathE y m L i = 0 ↔ ∀ t, t < m → o.errLo y i L t = 0 ∧ o.errHi y i L t = 0 := by
  have a := upto_le (o.errLo y i L) m
  have b := upto_le (o.errHi y i L) m
  unfold Otl.pathE
  constructor
  · intro h
    by_cases h1 : upto (o.errLo y i L) m < m
    · rw [if_pos h1] at h; exact absurd h (upto_stop _ _ h1)
    · rw [if_neg h1] at h
      by_cases h2 : upto (o.errHi y i L) m < m
      · rw [if_pos h2] at h; exact absurd h (upto_stop _ _ h2)
      · exact fun t ht => ⟨upto_all.1 (by omega) t ht, upto_all.1 (by omega) t ht⟩
  · intro h
    have h1 := upto_all.2 (fun t ht => (h t ht).1)
    have h2 := upto_all.2 (fun t ht => (h t ht).2)
    rw [if_neg (by omega), if_neg (by omega)]
theorem keepsE_zero {o : Otl} {y : Lyg} {m : Nat} {L : Nat → Int} : keepsE o y m L = 0 ↔ argE o y m L = 0 ∧ ∀ i, i < o.nP → ∀ t, t < m → o.errLo y i L t = 0 ∧ o.errHi y i L t = 0 := by
  unfold keepsE
  rcases argE_cases o y m L with h | h
  · rw [if_neg (by omega)]
    have a := upto_le (o.pathE y m L) o.nP
    constructor
    · intro hk
      refine ⟨h, fun i hi => pathE_zero.1 ?_⟩
      by_cases e : keepN o y m L = o.nP
      · exact upto_all.1 e i hi
      · rw [if_neg e] at hk
        exact absurd hk (upto_stop (o.pathE y m L) o.nP (by unfold keepN at e; omega))
    · rintro ⟨_, hk⟩
      have e : keepN o y m L = o.nP := upto_all.2 (fun i hi => pathE_zero.2 (hk i hi))
      rw [if_pos e]
  · rw [if_pos h]
    exact ⟨fun e => (by cases e), fun e => (by have := e.1; omega)⟩
theorem keepB_t {o : Otl} {y : Lyg} {l : List Nat} : keepB o y l = true ↔ argE o y l.length (lotF l) = 0 ∧ ∀ i, i < o.nP → ∀ t, t < l.length → o.errLo y i (lotF l) t = 0 ∧ o.errHi y i (lotF l) t = 0 := by
  unfold keepB; rw [decide_eq_true_iff]; exact keepsE_zero
theorem argE_lots {o : Otl} {y : Lyg} {l : List Nat} (hB : outB o = true) (hLB : layB o y = true) (hl : l.length = y.nM) (hv : ∀ t, t < l.length → lotF l t ≤ y.M t) : argE o y l.length (lotF l) = 0 := by
  refine if_pos ⟨hB, hLB, ?_⟩
  unfold lotsB
  rw [allB_t.2 (fun t ht => inB_t.2 ⟨lotF_pos _ _, hv t ht⟩)]
  simp [hl]
theorem stopB_mono {a b : Int} {st : St} (h : a ≤ b) (hs : stopB a st = true) : stopB b st = true := by
  cases st with
  | none => cases hs
  | some x => simp only [stopB, decide_eq_true_eq] at hs ⊢; omega
section
variable {o : Otl} {y : Lyg} {wt : Nat → Int} (hB : outB o = true) (hLB : layB o y = true) (hw : ∀ t, t < y.nM → 0 ≤ wt t)
include hB hLB hw
theorem lay_best {h N : Nat} {now : List Nat} {f : Nat → St → St} (hn : now.length + (h + 1) = y.nM) (hf : ∀ n st, n < N → stopB (costW wt (now ++ [n])) st = false → f n st = bestF (keepB o y) (costW wt) (planL y.M h (now ++ [n])) st) : ∀ (k n : Nat) (st : St), n + k ≤ N → layN (fun n st => stopB (costW wt now + n * wt now.length) st) f k n st = bestF (keepB o y) (costW wt) ((List.range' n k).flatMap fun j => planL y.M h (now ++ [j])) st
  | 0, n, st, _ => rfl
  | k + 1, n, st, hk => by
    have w0 := hw now.length (by omega)
    have cs := fun j : Nat => costW_snoc wt now j
    unfold layN
    by_cases hs : stopB (costW wt now + n * wt now.length) st = true
    · rw [if_pos hs]
      refine (bestF_same fun p hp => .inl ?_).symm
      simp only [List.mem_flatMap, List.mem_range'_1] at hp
      obtain ⟨j, hj, hp⟩ := hp
      obtain ⟨r, rfl, hr, _⟩ := mem_plan h hp
      have a := costW_pre (wt := wt) (now := now ++ [j]) (r := r) (fun t ht => hw t (by simp at ht; omega))
      rw [cs j] at a
      have b : (n : Int) * wt now.length ≤ (j : Int) * wt now.length := Int.mul_le_mul_of_nonneg_right (by omega) w0
      exact stopB_mono (by omega) hs
    · rw [if_neg hs, List.range'_succ, List.flatMap_cons, bestF_app, ← hf n st (by omega) (by rw [cs n]; simpa using hs)]
      exact lay_best hn hf k (n + 1) (f n st) (by omega)
/-- the search is the look at all lots -/
theorem try_best : ∀ (h : Nat) (now : List Nat) (low high : Nat → List Int) (st : St), now.length + h = y.nM → (∀ t, t < now.length → lotF now t ≤ y.M t) →
    (∀ i, i < o.nP → low i = o.celAt i (lotF now) y.lot anyRoom (parLo o) now.length ∧ high i = o.celAt i (lotF now) y.lot y.roomB (parHi o) now.length) →
    (∀ i, i < o.nP → ∀ t, t < now.length → o.errLo y i (lotF now) t = 0 ∧ o.errHi y i (lotF now) t = 0) → stopB (costW wt now) st = false →
    tryF o y wt h low high (costW wt now) now st = bestF (keepB o y) (costW wt) (planL y.M h now) st
  | 0, now, low, high, st, hn, hv, hc, he, hs => by
    show some (now, costW wt now) = bestS (keepB o y) (costW wt) st now
    unfold bestS
    rw [if_neg (by rw [hs]; decide), if_pos]
    exact keepB_t.2 ⟨argE_lots hB hLB (by omega) hv, he⟩
  | h + 1, now, low, high, st, hn, hv, hc, he, hs => by
    have rM := (layB_t hLB).2.2.2.1 now.length (by omega)
    have lb := fun (f : Nat → St → St) (hf) => lay_best hB hLB hw (h := h) (N := (y.M now.length + 1).toNat) (now := now) (f := f) hn hf (y.M now.length + 1).toNat 0 st (by omega)
    unfold tryF
    rw [lb _ ?_]
    · rw [← List.range_eq_range']; rfl
    · intro n st hnN hst
      have cong : ∀ (p : List Nat) (i : Nat) (r : List Nat), p = now ++ [n] ++ r → (o.yrAt i (lotF p) y.lot anyRoom (parLo o) now.length = o.yrAt i (lotF (now ++ [n])) y.lot anyRoom (parLo o) now.length ∧ o.yrAt i (lotF p) y.lot y.roomB (parHi o) now.length = o.yrAt i (lotF (now ++ [n])) y.lot y.roomB (parHi o) now.length) := by
        intro p i r hp
        have hu : ∀ u, u ≤ now.length → lotF p u = lotF (now ++ [n]) u := fun u hu => by rw [hp]; exact lotF_app (by simp; omega)
        exact ⟨yrAt_congr _ hu, yrAt_congr _ hu⟩
      have st1 : ∀ i, i < o.nP → o.yrL i now.length (n * y.lot) (low i) = o.yrAt i (lotF (now ++ [n])) y.lot anyRoom (parLo o) now.length ∧ o.yrH y i now.length (n * y.lot) (high i) = o.yrAt i (lotF (now ++ [n])) y.lot y.roomB (parHi o) now.length := by
        intro i hi
        have hu : ∀ u, u < now.length → lotF now u = lotF (now ++ [n]) u := fun u hu => (lotF_app hu).symm
        unfold Otl.yrL Otl.yrH Otl.yrAt
        rw [(hc i hi).1, (hc i hi).2, celAt_congr now.length hu, celAt_congr now.length hu, lotF_end]
        exact ⟨rfl, rfl⟩
      by_cases hall : allB o.nP (stepB o y now.length (n * y.lot) low high) = true
      · rw [if_pos hall]
        have hnM : (n : Int) ≤ y.M now.length := by omega
        · rw [← costW_snoc]
          have hstep := fun i hi => allB_t.1 hall i hi
          refine try_best h (now ++ [n]) _ _ st (by simp; omega) (fun t ht => ?_) (fun i hi => ?_) (fun i hi t ht => ?_) hst
          · by_cases e : t = now.length
            · subst e; rw [lotF_end]; exact hnM
            · have ht2 : t < now.length := by simp at ht; omega
              rw [lotF_app ht2]; exact hv t ht2
          · rw [List.length_append, List.length_singleton, celAt_succ, celAt_succ]
            unfold lowN highN
            rw [(st1 i hi).1, (st1 i hi).2]
            exact ⟨rfl, rfl⟩
          · by_cases e : t = now.length
            · subst e
              have := hstep i hi
              simp only [stepB, Bool.and_eq_true, decide_eq_true_eq] at this
              rw [(st1 i hi).1, (st1 i hi).2] at this
              exact this
            · have ht2 : t < now.length := by simp at ht; omega
              have hu : ∀ u, u ≤ t → lotF (now ++ [n]) u = lotF now u := fun u hu => lotF_app (by omega)
              have := he i hi t ht2
              unfold Otl.errLo Otl.errHi at this ⊢
              rw [yrAt_congr t hu, yrAt_congr t hu]
              exact this
      · rw [if_neg hall]
        refine (bestF_same fun p hp => .inr ?_).symm
        obtain ⟨r, hp, hr, _⟩ := mem_plan h hp
        cases hk : keepB o y p with
        | false => rfl
        | true =>
          refine absurd (allB_t.2 fun i hi => ?_) hall
          have := (keepB_t.1 hk).2 i hi now.length (by rw [hp]; simp)
          unfold Otl.errLo Otl.errHi at this
          rw [(cong p i r hp).1, (cong p i r hp).2] at this
          simp only [stepB, Bool.and_eq_true, decide_eq_true_eq]
          rw [(st1 i hi).1, (st1 i hi).2]
          exact this
theorem find_best : findF o y wt = bestF (keepB o y) (costW wt) (planL y.M y.nM []) none := by
  have e : costW wt [] = 0 := rfl
  have h := try_best hB hLB hw y.nM [] (fun _ => firstC o.S o.nS) (fun _ => firstC o.S o.nS) none (by simp) (fun t ht => by cases ht) (fun i hi => ⟨rfl, rfl⟩) (fun i hi t ht => by cases ht) rfl
  rw [e] at h
  exact h
end
/-- the first k lots looked at -/
def bestN (ok : List Nat → Bool) (cost : List Nat → Int) (P : List (List Nat)) (k : Nat) : St := bestF ok cost (P.take k) none
theorem bestN_succ {ok : List Nat → Bool} {cost : List Nat → Int} {P : List (List Nat)} {k : Nat} (hk : k < P.length) : bestN ok cost P (k + 1) = bestS ok cost (bestN ok cost P k) (P.getD k []) := by
  unfold bestN
  rw [List.take_succ_eq_append_getElem hk, bestF_app]
  simp [bestF, List.getD_eq_getElem?_getD, hk]
theorem bestN_all {ok : List Nat → Bool} {cost : List Nat → Int} (P : List (List Nat)) : bestN ok cost P P.length = bestF ok cost P none := by unfold bestN; rw [List.take_length]
/-- what the look finds -/
theorem bestF_spec {ok : List Nat → Bool} {cost : List Nat → Int} : ∀ (ps : List (List Nat)) (st : St), (∀ x, st = some x → x.2 = cost x.1) →
    (∀ x, bestF ok cost ps st = some x → x.2 = cost x.1 ∧ (st = some x ∨ (x.1 ∈ ps ∧ ok x.1 = true)) ∧ (∀ q ∈ ps, ok q = true → x.2 ≤ cost q) ∧ ∀ z, st = some z → x.2 ≤ z.2) ∧ (bestF ok cost ps st = none → st = none ∧ ∀ q ∈ ps, ok q = false)
  | [], st, hst => ⟨fun x hx => ⟨hst x hx, .inl hx, fun q hq => (by cases hq), fun z hz => by rw [show st = some x from hx] at hz; cases hz; exact Int.le_refl _⟩, fun h => ⟨h, fun q hq => by cases hq⟩⟩
  | p :: ps, st, hst => by
    have hst2 : ∀ x, bestS ok cost st p = some x → x.2 = cost x.1 := fun x hx => by
      unfold bestS at hx
      split at hx
      · exact hst x hx
      · split at hx
        · cases hx; rfl
        · exact hst x hx
    obtain ⟨h1, h2⟩ := bestF_spec (ok := ok) (cost := cost) ps (bestS ok cost st p) hst2
    have hs : ∀ z, st = some z → ∃ z', bestS ok cost st p = some z' ∧ z'.2 ≤ z.2 := fun z hz => by
      subst hz
      unfold bestS
      split
      · exact ⟨z, rfl, Int.le_refl _⟩
      · rename_i hn
        split
        · exact ⟨_, rfl, by simp only [stopB, decide_eq_true_eq] at hn; show cost p ≤ z.2; omega⟩
        · exact ⟨z, rfl, Int.le_refl _⟩
    have hp : ok p = true → ∃ z', bestS ok cost st p = some z' ∧ z'.2 ≤ cost p := fun hok => by
      unfold bestS
      split
      · rename_i hy
        cases st with
        | none => cases hy
        | some z => exact ⟨z, rfl, by simpa [stopB] using hy⟩
      · exact ⟨_, rfl, Int.le_refl _⟩
    refine ⟨fun x hx => ?_, fun hn => ?_⟩
    · obtain ⟨a, b, c, d⟩ := h1 x hx
      refine ⟨a, ?_, fun q hq hok => ?_, fun z hz => ?_⟩
      · rcases b with b | ⟨b, b2⟩
        · unfold bestS at b
          split at b
          · exact .inl b
          · split at b
            · rename_i hok
              cases b
              exact .inr ⟨by simp, hok⟩
            · exact .inl b
        · exact .inr ⟨by simp [b], b2⟩
      · rcases List.mem_cons.1 hq with rfl | hq
        · obtain ⟨z', e1, e2⟩ := hp hok
          have := d z' e1; omega
        · exact c q hq hok
      · obtain ⟨z', e1, e2⟩ := hs z hz
        have := d z' e1; omega
    · obtain ⟨a, b⟩ := h2 hn
      refine ⟨?_, fun q hq => ?_⟩
      · cases st with
        | none => rfl
        | some z => obtain ⟨z', e1, _⟩ := hs z rfl; rw [a] at e1; cases e1
      · rcases List.mem_cons.1 hq with rfl | hq
        · cases hk : ok q with
          | false => rfl
          | true => obtain ⟨z', e1, _⟩ := hp hk; rw [a] at e1; cases e1
        · exact b q hq
end Go.Proofs.Ytdcpgjepgajioaa
