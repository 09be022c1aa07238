/- Plain laws of cellars: totals, what is sold, a year later. No conditions beyond each theorem's own. -/
import Derived.Test.YtdcpgjepgajioaaAa
set_option linter.unusedVariables false
set_option linter.unusedSimpArgs false
namespace Go.Proofs.Ytdcpgjepgajioaa
open Go.RowKit

/-- how much there is -/
def tot : List Int → Int
  | [] => 0
  | x :: c => x + tot c
/-- what is left when n is sold, the first ones first, and what could not be sold -/
def sellL : List Int → Int → List Int × Int
  | [], n => ([], n)
  | x :: c, n => ((x - min x n) :: (sellL c (n - min x n)).1, (sellL c (n - min x n)).2)
/-- what is left when n of at least an age is sold -/
def sellF (c : List Int) (a : Nat) (n : Int) : List Int × Int := (c.take a ++ (sellL (c.drop a) n).1, (sellL (c.drop a) n).2)
/-- the first k ages a year later -/
def lateN (p : Int → Int) (c : List Int) : Nat → List Int
  | 0 => List.replicate 32 0
  | k + 1 => (lateN p c k).set (min (k + 1) 31) ((lateN p c k).getD (min (k + 1) 31) 0 + p (c.getD k 0))
def lateF (p : Int → Int) (c : List Int) : List Int := lateN p c 32
/-- products sold one after the other, from p on; 0: all; 10: the first that could not be -/
def sellAll (A V : Nat → Int) : Nat → Nat → List Int → List Int × Int
  | 0, _, c => (c, 0)
  | k + 1, p, c => if (sellF c (A p).toNat (V p)).2 = 0 then sellAll A V k (p + 1) (sellF c (A p).toNat (V p)).1 else ((sellF c (A p).toNat (V p)).1, 10)
/-- a year: lots come, products are sold -/
def yearF (A V : Nat → Int) (n : Nat) (laid : Int) (room : Int → Bool) (c : List Int) : List Int × Int :=
  if room (tot (c.set 0 (c.getD 0 0 + laid))) = true then sellAll A V n 0 (c.set 0 (c.getD 0 0 + laid)) else (c.set 0 (c.getD 0 0 + laid), 9)

/-- no amount is below 0 -/
def NonNeg (c : List Int) : Prop := ∀ x ∈ c, 0 ≤ x
theorem NonNeg.tot {c : List Int} (h : NonNeg c) : 0 ≤ tot c := by
  induction c with
  | nil => exact Int.le_refl _
  | cons x c ih =>
    have := h x (by simp)
    have := ih (fun y hy => h y (by simp [hy]))
    show 0 ≤ x + Go.Proofs.Ytdcpgjepgajioaa.tot c
    omega
theorem NonNeg.getD {c : List Int} (h : NonNeg c) (j : Nat) : 0 ≤ c.getD j 0 := by
  rw [List.getD_eq_getElem?_getD]
  cases e : c[j]? with
  | none => exact Int.le_refl _
  | some x => exact h x (List.mem_of_getElem? e)
theorem NonNeg.le_tot {c : List Int} (h : NonNeg c) (j : Nat) : c.getD j 0 ≤ Go.Proofs.Ytdcpgjepgajioaa.tot c := by
  induction c generalizing j with
  | nil => simp [Go.Proofs.Ytdcpgjepgajioaa.tot]
  | cons x c ih =>
    have h0 := h x (by simp)
    have hc : NonNeg c := fun y hy => h y (by simp [hy])
    have h1 := hc.tot
    cases j with
    | zero => show x ≤ x + Go.Proofs.Ytdcpgjepgajioaa.tot c; omega
    | succ j =>
      have := ih hc j
      show c.getD j 0 ≤ x + Go.Proofs.Ytdcpgjepgajioaa.tot c
      omega
theorem NonNeg.set {c : List Int} (h : NonNeg c) (j : Nat) {x : Int} (hx : 0 ≤ x) : NonNeg (c.set j x) := fun y hy => by
  rcases List.mem_or_eq_of_mem_set hy with h1 | h1
  · exact h y h1
  · rw [h1]; exact hx
theorem tot_set {c : List Int} (j : Nat) (x : Int) (hj : j < c.length) : tot (c.set j x) = tot c - c.getD j 0 + x := by
  induction c generalizing j with
  | nil => simp at hj
  | cons y c ih =>
    cases j with
    | zero => show x + tot c = y + tot c - y + x; omega
    | succ j =>
      have := ih j (by simpa using hj)
      show y + tot (c.set j x) = y + tot c - c.getD j 0 + x
      omega
theorem tot_app (c d : List Int) : tot (c ++ d) = tot c + tot d := by
  induction c with
  | nil => show tot d = 0 + tot d; omega
  | cons x c ih => show x + tot (c ++ d) = x + tot c + tot d; omega
theorem tot_take {c : List Int} {k : Nat} (hk : k < c.length) : tot (c.take (k + 1)) = tot (c.take k) + c.getD k 0 := by
  rw [List.take_succ_eq_append_getElem hk, tot_app]
  show _ + (c[k] + 0) = _
  rw [List.getD_eq_getElem?_getD, List.getElem?_eq_getElem hk]
  show _ = tot (c.take k) + c[k]
  omega
theorem NonNeg.take {c : List Int} (h : NonNeg c) (k : Nat) : NonNeg (c.take k) := fun x hx => h x (List.mem_of_mem_take hx)
theorem NonNeg.drop {c : List Int} (h : NonNeg c) (k : Nat) : NonNeg (c.drop k) := fun x hx => h x (List.mem_of_mem_drop hx)
theorem NonNeg.app {c d : List Int} (h : NonNeg c) (g : NonNeg d) : NonNeg (c ++ d) := fun x hx => by
  rcases List.mem_append.1 hx with h1 | h1
  · exact h x h1
  · exact g x h1
theorem tot_take_le {c : List Int} (h : NonNeg c) (k : Nat) : tot (c.take k) ≤ tot c := by
  have e : tot c = tot (c.take k) + tot (c.drop k) := by rw [← tot_app, List.take_append_drop]
  have := (h.drop k).tot
  omega

theorem sellL_len (c : List Int) (n : Int) : (sellL c n).1.length = c.length := by
  induction c generalizing n with
  | nil => rfl
  | cons x c ih => show (sellL c _).1.length + 1 = c.length + 1; rw [ih]
theorem sellL_zero {c : List Int} (h : NonNeg c) : sellL c 0 = (c, 0) := by
  induction c with
  | nil => rfl
  | cons x c ih =>
    have h0 := h x (by simp)
    have e := ih (fun y hy => h y (by simp [hy]))
    have m : min x 0 = 0 := by omega
    show ((x - min x 0) :: (sellL c (0 - min x 0)).1, (sellL c (0 - min x 0)).2) = _
    rw [m]
    simp [e]
theorem sellL_sum {c : List Int} {n : Int} (h : NonNeg c) (hn : 0 ≤ n) : tot (sellL c n).1 = tot c - (n - (sellL c n).2) ∧ 0 ≤ (sellL c n).2 ∧ (sellL c n).2 ≤ n ∧ NonNeg (sellL c n).1 := by
  induction c generalizing n with
  | nil => exact ⟨by show 0 = 0 - (n - n); omega, hn, Int.le_refl _, fun x hx => by cases hx⟩
  | cons x c ih =>
    have h0 := h x (by simp)
    obtain ⟨i1, i2, i3, i4⟩ := ih (n := n - min x n) (fun y hy => h y (by simp [hy])) (by omega)
    refine ⟨?_, i2, ?_, ?_⟩
    · show x - min x n + tot (sellL c (n - min x n)).1 = x + tot c - (n - (sellL c (n - min x n)).2)
      omega
    · show (sellL c (n - min x n)).2 ≤ n
      omega
    · intro y hy
      rcases List.mem_cons.1 (show y ∈ (x - min x n) :: (sellL c (n - min x n)).1 from hy) with h1 | h1
      · omega
      · exact i4 y h1
theorem sellF_len (c : List Int) (a : Nat) (n : Int) : (sellF c a n).1.length = c.length := by
  simp only [sellF, List.length_append, sellL_len, List.length_take, List.length_drop]
  omega
theorem sellF_ok {c : List Int} {a : Nat} {n : Int} (h : NonNeg c) (hn : 0 ≤ n) : NonNeg (sellF c a n).1 ∧ tot (sellF c a n).1 = tot c - (n - (sellF c a n).2) ∧ 0 ≤ (sellF c a n).2 ∧ (sellF c a n).2 ≤ n := by
  obtain ⟨i1, i2, i3, i4⟩ := sellL_sum (h.drop a) hn
  refine ⟨(h.take a).app i4, ?_, i2, i3⟩
  show tot (c.take a ++ (sellL (c.drop a) n).1) = _
  rw [tot_app, i1]
  have e : tot c = tot (c.take a) + tot (c.drop a) := by rw [← tot_app, List.take_append_drop]
  show _ = tot c - (n - (sellL (c.drop a) n).2)
  omega
theorem lateN_len (p : Int → Int) (c : List Int) : ∀ k, (lateN p c k).length = 32
  | 0 => by simp [lateN]
  | k + 1 => by simp [lateN, lateN_len p c k]
theorem lateF_len (p : Int → Int) (c : List Int) : (lateF p c).length = 32 := lateN_len p c 32
theorem tot_rep (n : Nat) : tot (List.replicate n 0) = 0 := by
  induction n with
  | zero => rfl
  | succ n ih => show 0 + tot (List.replicate n 0) = 0; omega
/-- the parts of the first k ages -/
def partN (p : Int → Int) (c : List Int) : Nat → Int
  | 0 => 0
  | k + 1 => partN p c k + p (c.getD k 0)
theorem lateN_ok {p : Int → Int} {c : List Int} (hp : ∀ j, 0 ≤ p (c.getD j 0)) : ∀ k, NonNeg (lateN p c k) ∧ tot (lateN p c k) = partN p c k
  | 0 => ⟨fun x hx => by rw [List.eq_of_mem_replicate hx]; exact Int.le_refl _, tot_rep 32⟩
  | k + 1 => by
    obtain ⟨h1, h2⟩ := lateN_ok hp k
    have := h1.getD (min (k + 1) 31)
    have := hp k
    refine ⟨h1.set _ (by omega), ?_⟩
    show tot ((lateN p c k).set _ _) = partN p c k + p (c.getD k 0)
    rw [tot_set _ _ (by rw [lateN_len]; omega), h2]
    omega
/-- parts that are each no more than the amount and e -/
theorem partN_le {p : Int → Int} {e : Int} {c : List Int} (hp : ∀ j, p (c.getD j 0) ≤ c.getD j 0 + e) : ∀ k, k ≤ c.length → partN p c k ≤ tot (c.take k) + k * e
  | 0, _ => by simp [partN, tot]
  | k + 1, h => by
    have i := partN_le hp k (by omega)
    have := hp k
    rw [tot_take (by omega)]
    show partN p c k + p (c.getD k 0) ≤ _
    have : ((k + 1 : Nat) : Int) * e = k * e + e := by rw [show ((k + 1 : Nat) : Int) = (k : Int) + 1 by omega, Int.add_mul]; omega
    omega
theorem lateF_ok {p : Int → Int} {e : Int} {c : List Int} (hl : c.length = 32) (h0 : ∀ j, 0 ≤ p (c.getD j 0)) (h1 : ∀ j, p (c.getD j 0) ≤ c.getD j 0 + e) : NonNeg (lateF p c) ∧ tot (lateF p c) ≤ tot c + 32 * e := by
  obtain ⟨a, b⟩ := lateN_ok h0 32
  refine ⟨a, ?_⟩
  have := partN_le h1 32 (by omega)
  rw [List.take_of_length_le (by omega)] at this
  show tot (lateN p c 32) ≤ _
  omega
theorem sellAll_ok (A V : Nat → Int) : ∀ (k p : Nat) (c : List Int), NonNeg c → (∀ i, i < p + k → 0 ≤ V i) → NonNeg (sellAll A V k p c).1 ∧ tot (sellAll A V k p c).1 ≤ tot c ∧ (sellAll A V k p c).1.length = c.length ∧ ((sellAll A V k p c).2 = 0 ∨ (sellAll A V k p c).2 = 10)
  | 0, _, c, h, _ => ⟨h, Int.le_refl _, rfl, .inl rfl⟩
  | k + 1, p, c, h, hv => by
    obtain ⟨h1, h2, h3, h4⟩ := sellF_ok (a := (A p).toNat) h (hv p (by omega))
    unfold sellAll
    by_cases e : (sellF c (A p).toNat (V p)).2 = 0
    · rw [if_pos e]
      obtain ⟨i1, i2, i3, i4⟩ := sellAll_ok A V k (p + 1) _ h1 (fun i hi => hv i (by omega))
      exact ⟨i1, by omega, by rw [i3, sellF_len], i4⟩
    · rw [if_neg e]
      exact ⟨h1, by show tot (sellF c (A p).toNat (V p)).1 ≤ _; omega, sellF_len _ _ _, .inr rfl⟩
theorem yearF_ok {A V : Nat → Int} {n : Nat} {laid : Int} {room : Int → Bool} {c : List Int} (h : NonNeg c) (hl : c.length = 32) (hv : ∀ i, i < n → 0 ≤ V i) (h0 : 0 ≤ laid) :
    NonNeg (yearF A V n laid room c).1 ∧ tot (yearF A V n laid room c).1 ≤ tot c + laid ∧ (yearF A V n laid room c).1.length = 32 := by
  have g0 := h.getD 0
  have e := tot_set 0 (c.getD 0 0 + laid) (c := c) (by omega)
  have q := h.set 0 (x := c.getD 0 0 + laid) (by omega)
  unfold yearF
  by_cases hr : room (tot (c.set 0 (c.getD 0 0 + laid))) = true
  · rw [if_pos hr]
    obtain ⟨i1, i2, i3, _⟩ := sellAll_ok A V n 0 _ q (fun i hi => hv i (by omega))
    exact ⟨i1, by omega, by rw [i3]; simpa using hl⟩
  · rw [if_neg hr]
    exact ⟨q, by show tot (c.set 0 (c.getD 0 0 + laid)) ≤ _; omega, by simpa using hl⟩
end Go.Proofs.Ytdcpgjepgajioaa
