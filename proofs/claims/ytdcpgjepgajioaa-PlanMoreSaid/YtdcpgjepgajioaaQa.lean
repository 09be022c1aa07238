/- Plain: with more stock, or less that is sold, nothing becomes short and no less is left. Lists of rows under way. No conditions beyond each theorem's own. -/
import Derived.Test.YtdcpgjepgajioaaMa
import Derived.Test.YtdcpgjepgajioaaCc
set_option linter.unusedVariables false
set_option linter.unusedSimpArgs false
set_option linter.unusedSectionVars false
set_option linter.constructorNameAsVariable false
namespace Go.Proofs.Ytdcpgjepgajioaa
open Go.RowKit

/-- an outlook with more stock, or less that is sold -/
structure Easier (o o' : Otl) : Prop where
  B : outB o = true
  B' : outB o' = true
  nS : o'.nS = o.nS
  S : ∀ i, i < o.nS → o.S i ≤ o'.S i
  A : o'.A = o.A
  nA : o'.nA = o.nA
  kl : o'.kl = o.kl
  kh : o'.kh = o.kh
  nP : o'.nP = o.nP
  pN : ∀ i, i < o.nP → o'.pN i = o.pN i
  V : ∀ i, i < o.nP → ∀ t, t < o.pN i → ∀ p, p < o.nA → 0 ≤ o'.V i t p ∧ o'.V i t p ≤ o.V i t p
/-- the same, shut -/
structure Leq (c d : List Int) : Prop where
  le : LeL c d
theorem lateF_hid {p : Int → Int} {c d : List Int} (hp : ∀ x y, 0 ≤ x → x ≤ y → p x ≤ p y) (h : LeL c d) (hc : NonNeg c) : Leq (lateF p c) (lateF p d) := by
  have e1 : lateF p c = lateX (fun a => p (c.getD a 0)) 32 := lateN_X p c 32
  have e2 : lateF p d = lateX (fun a => p (d.getD a 0)) 32 := lateN_X p d 32
  rw [e1, e2]
  have g : ∀ j, j < 32 → (fun a => p (c.getD a 0)) j ≤ (fun a => p (d.getD a 0)) j := fun j _ => hp _ _ (hc.getD j) (h.get j)
  generalize (fun a => p (c.getD a 0)) = X at *
  generalize (fun a => p (d.getD a 0)) = Y at *
  clear e1 e2
  generalize 32 = k at *
  exact ⟨lateX_mono k g⟩
section
variable {o o' : Otl} (h : Easier o o') {y : Lyg} {i m : Nat} {L : Nat → Int} (r : RunOk o i m L y.lot (parLo o)) (r' : RunOk o' i m L y.lot (parLo o'))
include h r r'
theorem easier_par : parLo o' = parLo o := by funext x; unfold parLo; rw [h.kl]
theorem easier_year {t : Nat} (ht : t < m) (hc : LeL (o.celAt i L y.lot anyRoom (parLo o) t) (o'.celAt i L y.lot anyRoom (parLo o') t)) (he : o.errLo y i L t = 0) : o'.errLo y i L t = 0 ∧ LeL (o.yrAt i L y.lot anyRoom (parLo o) t).1 (o'.yrAt i L y.lot anyRoom (parLo o') t).1 := by
  have n' := (celAt_ok (room := anyRoom) r' t (Nat.le_of_lt ht)).1
  have l := r.laid ht
  unfold Otl.errLo at he ⊢
  unfold Otl.yrAt at he ⊢
  rw [h.A, h.nA]
  exact yearF_mono hc n' l.1 (fun p hp => h.V i r.hi t (by rw [← r.hm]; exact ht) p hp) he
theorem easier_cel (t : Nat) : t ≤ m → (∀ u, u < t → o.errLo y i L u = 0) → Leq (o.celAt i L y.lot anyRoom (parLo o) t) (o'.celAt i L y.lot anyRoom (parLo o') t) := by
  induction t with
  | zero =>
    intro _ _
    have e : LeL (firstC o.S o.nS) (firstC o'.S o'.nS) := by
      rw [h.nS]
      exact firstC_mono h.S
    have e1 : o.celAt i L y.lot anyRoom (parLo o) 0 = firstC o.S o.nS := rfl
    have e2 : o'.celAt i L y.lot anyRoom (parLo o') 0 = firstC o'.S o'.nS := rfl
    rw [e1, e2]
    exact ⟨e⟩
  | succ t ih =>
    intro ht he
    have ih := ih (by omega) (fun u hu => he u (by omega))
    have st := easier_year h r r' (t := t) (by omega) ih.le (he t (by omega))
    have n0 := (yrAt_ok (room := anyRoom) r (t := t) (by omega)).1
    have s2 := st.2
    rw [celAt_succ, celAt_succ]
    rw [easier_par h r r'] at s2 ⊢
    generalize (o.yrAt i L y.lot anyRoom (parLo o) t).1 = c at *
    generalize (o'.yrAt i L y.lot anyRoom (parLo o) t).1 = d at *
    have k0 := (outB_t h.B).2.2.1
    have mono : ∀ x z : Int, 0 ≤ x → x ≤ z → parLo o x ≤ parLo o z := fun x z _ hx => parLo_mono k0 x z hx
    exact @lateF_hid (parLo o) c d mono s2 n0
theorem easier_row {t : Nat} (ht : t < m) (he : ∀ u, u ≤ t → o.errLo y i L u = 0) : o'.errLo y i L t = 0 ∧ LeL (o.yrAt i L y.lot anyRoom (parLo o) t).1 (o'.yrAt i L y.lot anyRoom (parLo o') t).1 :=
  easier_year h r r' ht (easier_cel h r r' t (Nat.le_of_lt ht) (fun u hu => he u (by omega))).le (he t (Nat.le_refl _))
theorem easier_upto : upto (o.errLo y i L) m ≤ upto (o'.errLo y i L) m := by
  rcases Nat.lt_or_ge (upto (o'.errLo y i L) m) (upto (o.errLo y i L) m) with hlt | hge
  · have a := upto_le (o.errLo y i L) m
    exact absurd (easier_row h r r' (t := upto (o'.errLo y i L) m) (by omega) (fun u hu => upto_zero _ m u (by omega))).1 (upto_stop _ m (by omega))
  · exact hge
end
theorem errLo_two {o : Otl} {y : Lyg} {i m t : Nat} {L : Nat → Int} (r : RunOk o i m L y.lot (parLo o)) (ht : t < m) : o.errLo y i L t = 0 ∨ o.errLo y i L t = 10 := by
  have c := celAt_ok (room := anyRoom) r t (Nat.le_of_lt ht)
  have v := r.vals ht
  have l := r.laid ht
  have e : o.yrAt i L y.lot anyRoom (parLo o) t = sellAll o.A (o.V i t) o.nA 0 ((o.celAt i L y.lot anyRoom (parLo o) t).set 0 ((o.celAt i L y.lot anyRoom (parLo o) t).getD 0 0 + L t * y.lot)) := by
    unfold Otl.yrAt yearF
    exact if_pos rfl
  unfold Otl.errLo
  rw [e]
  exact (sellAll_ok o.A (o.V i t) o.nA 0 _ (c.1.set 0 (by have := c.1.getD 0; omega)) (fun p hp => (v.2 p (by omega)).1)).2.2.2
/-- what PlanMore asks for -/
theorem easier_left {o o' : Otl} {y : Lyg} {m i : Nat} {L : Nat → Int} (h : Easier o o') (h0 : argE o y m L = 0) (hi : inB (i : Int) 0 (o.nP - 1) = true) : argE o' y m L = 0 ∧ inB (i : Int) 0 (o'.nP - 1) = true ∧
    (leftE o y m L i = 0 → leftE o' y m L i = 0 ∧ ∀ t, t < m → ∀ k, (o.leftRow y i L t).getD k 0 ≤ (o'.leftRow y i L t).getD k 0) ∧ (leftE o' y m L i = 0 ∨ (leftE o' y m L i = 10 ∧ leftE o y m L i = 10 ∧ leftY o y m L i ≤ leftY o' y m L i)) := by
  obtain ⟨e1, e2, e3⟩ := argE_zero h0
  have hil : i < o.nP := by have := inB_t.1 hi; have := (outB_t h.B).2.2.2.2.2.2.2.2.1; omega
  have e2' : layB o' y = true := by
    unfold layB at e2 ⊢
    rw [h.pN 0 (by omega)]
    exact e2
  have h0' : argE o' y m L = 0 := if_pos ⟨h.B', e2', e3⟩
  have hi' : inB (i : Int) 0 (o'.nP - 1) = true := by rw [h.nP]; exact hi
  have r := (run_ok e1 e2 e3 hil).1
  have r' := (run_ok h.B' e2' e3 (by rw [h.nP]; exact hil)).1
  have l := left_ok h0 hi rfl
  have l' := left_ok h0' hi' rfl
  have u := easier_upto h r r'
  have b := upto_le (o.errLo y i L) m
  have b' := upto_le (o'.errLo y i L) m
  refine ⟨h0', hi', fun he => ?_, ?_⟩
  · have hm : upto (o.errLo y i L) m = m := by
      rcases Nat.lt_or_ge (upto (o.errLo y i L) m) m with hlt | hge
      · have a := (l.2 hlt).1
        rw [he] at a
        exact absurd a.symm (upto_stop _ m hlt)
      · omega
    refine ⟨(l'.1 (by omega)).1, fun t ht k => ?_⟩
    exact (easier_row h r r' ht (fun u hu => upto_zero _ m u (by omega))).2.get k
  · rcases Nat.lt_or_ge (upto (o'.errLo y i L) m) m with hlt | hge
    · right
      have a' := l'.2 hlt
      have a := l.2 (by omega)
      have t' := (errLo_two r' hlt).resolve_left (upto_stop _ m hlt)
      have t := (errLo_two r (t := upto (o.errLo y i L) m) (by omega)).resolve_left (upto_stop _ m (by omega))
      exact ⟨by rw [a'.1, t'], by rw [a.1, t], by rw [a.2, a'.2]; exact u⟩
    · left; exact (l'.1 (by omega)).1
/-- an error ahead of all years -/
theorem left_bad {o : Otl} {y : Lyg} {m : Nat} {L : Nat → Int} {path : Int} (h : leftE o y m L path = 1 ∨ leftE o y m L path = 2) : leftY o y m L path = 0 := by
  unfold leftE at h
  unfold leftY
  rcases argE_cases o y m L with h0 | h0
  · rw [if_neg (by omega)] at h ⊢
    by_cases hi : inB path 0 (o.nP - 1) = true
    · obtain ⟨i, rfl⟩ : ∃ i : Nat, path = i := ⟨path.toNat, by have := inB_t.1 hi; omega⟩
      obtain ⟨e1, e2, e3⟩ := argE_zero h0
      have hil : i < o.nP := by have := inB_t.1 hi; omega
      rw [if_pos hi, Int.toNat_natCast] at h
      by_cases hm : upto (o.errLo y i L) m = m
      · rw [if_pos hm] at h; omega
      · rw [if_neg hm] at h
        have b := upto_le (o.errLo y i L) m
        have := errLo_two (run_ok e1 e2 e3 hil).1 (t := upto (o.errLo y i L) m) (by omega)
        omega
    · rw [if_neg hi]
  · rw [if_pos h0]
theorem left_good {o : Otl} {y : Lyg} {m : Nat} {L : Nat → Int} {path : Int} (h1 : leftE o y m L path ≠ 1) (h2 : leftE o y m L path ≠ 2) : argE o y m L = 0 ∧ inB path 0 (o.nP - 1) = true := by
  rcases argE_cases o y m L with h0 | h0
  · refine ⟨h0, ?_⟩
    by_cases hi : inB path 0 (o.nP - 1) = true
    · exact hi
    · exact absurd (show leftE o y m L path = 2 by unfold leftE; rw [if_neg (by omega), if_neg hi]) h2
  · exact absurd (show leftE o y m L path = 1 from if_pos h0) h1
end Go.Proofs.Ytdcpgjepgajioaa
