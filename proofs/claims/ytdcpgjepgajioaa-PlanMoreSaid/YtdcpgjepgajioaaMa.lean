/- Plain: more in a cellar leaves more, amount for amount. No conditions beyond each theorem's own. -/
import Derived.Test.YtdcpgjepgajioaaCg
set_option linter.unusedVariables false
set_option linter.unusedSimpArgs false
namespace Go.Proofs.Ytdcpgjepgajioaa
open Go.RowKit

/-- amount for amount no more -/
def LeL : List Int → List Int → Prop
  | [], [] => True
  | x :: c, y :: d => x ≤ y ∧ LeL c d
  | _, _ => False
theorem LeL.refl : ∀ c : List Int, LeL c c
  | [] => trivial
  | x :: c => ⟨Int.le_refl _, LeL.refl c⟩
theorem LeL.trans : ∀ {c d e : List Int}, LeL c d → LeL d e → LeL c e
  | [], [], [], _, _ => trivial
  | x :: c, y :: d, z :: e, h, g => ⟨Int.le_trans h.1 g.1, h.2.trans g.2⟩
  | [], [], _ :: _, _, g => g.elim
  | [], _ :: _, _, h, _ => h.elim
  | _ :: _, [], _, h, _ => h.elim
  | _ :: _, _ :: _, [], _, g => g.elim
theorem LeL.len : ∀ {c d : List Int}, LeL c d → c.length = d.length
  | [], [], _ => rfl
  | x :: c, y :: d, h => congrArg (· + 1) h.2.len
  | [], _ :: _, h => h.elim
  | _ :: _, [], h => h.elim
theorem LeL.get : ∀ {c d : List Int}, LeL c d → ∀ j, c.getD j 0 ≤ d.getD j 0
  | [], [], _, j => Int.le_refl _
  | x :: c, y :: d, h, 0 => h.1
  | x :: c, y :: d, h, j + 1 => h.2.get j
  | [], _ :: _, h, _ => h.elim
  | _ :: _, [], h, _ => h.elim
theorem LeL.of : ∀ {c d : List Int}, c.length = d.length → (∀ j, j < c.length → c.getD j 0 ≤ d.getD j 0) → LeL c d
  | [], [], _, _ => trivial
  | x :: c, y :: d, h, g => ⟨g 0 (by simp), LeL.of (by simpa using h) (fun j hj => g (j + 1) (by simp; omega))⟩
  | [], _ :: _, h, _ => by simp at h
  | _ :: _, [], h, _ => by simp at h
theorem LeL.tot : ∀ {c d : List Int}, LeL c d → Go.Proofs.Ytdcpgjepgajioaa.tot c ≤ Go.Proofs.Ytdcpgjepgajioaa.tot d
  | [], [], _ => Int.le_refl _
  | x :: c, y :: d, h => by
    have := h.2.tot
    have := h.1
    show x + Go.Proofs.Ytdcpgjepgajioaa.tot c ≤ y + Go.Proofs.Ytdcpgjepgajioaa.tot d
    omega
  | [], _ :: _, h => h.elim
  | _ :: _, [], h => h.elim
theorem LeL.nonNeg {c d : List Int} (h : LeL c d) (hc : NonNeg c) : NonNeg d := fun x hx => by
  obtain ⟨j, hj, rfl⟩ := List.getElem_of_mem hx
  have := h.get j
  have := hc.getD j
  rw [List.getD_eq_getElem?_getD (l := d), List.getElem?_eq_getElem hj] at *
  simp only [Option.getD_some] at *
  omega
theorem LeL.set : ∀ {c d : List Int}, LeL c d → ∀ (j : Nat) {x y : Int}, x ≤ y → LeL (c.set j x) (d.set j y)
  | [], [], _, j, _, _, _ => trivial
  | _ :: c, _ :: d, h, 0, _, _, e => ⟨e, h.2⟩
  | _ :: c, _ :: d, h, j + 1, _, _, e => ⟨h.1, h.2.set j e⟩
  | [], _ :: _, h, _, _, _, _ => h.elim
  | _ :: _, [], h, _, _, _, _ => h.elim
theorem LeL.app : ∀ {c d e f : List Int}, LeL c d → LeL e f → LeL (c ++ e) (d ++ f)
  | [], [], _, _, _, g => g
  | x :: c, y :: d, _, _, h, g => ⟨h.1, h.2.app g⟩
  | [], _ :: _, _, _, h, _ => h.elim
  | _ :: _, [], _, _, h, _ => h.elim
theorem LeL.take : ∀ {c d : List Int}, LeL c d → ∀ k, LeL (c.take k) (d.take k)
  | [], [], _, k => by simp [LeL]
  | x :: c, y :: d, h, 0 => trivial
  | x :: c, y :: d, h, k + 1 => ⟨h.1, h.2.take k⟩
  | [], _ :: _, h, _ => h.elim
  | _ :: _, [], h, _ => h.elim
theorem LeL.drop : ∀ {c d : List Int}, LeL c d → ∀ k, LeL (c.drop k) (d.drop k)
  | [], [], _, k => by simp [LeL]
  | x :: c, y :: d, h, 0 => h
  | x :: c, y :: d, h, k + 1 => h.2.drop k
  | [], _ :: _, h, _ => h.elim
  | _ :: _, [], h, _ => h.elim
theorem sellL_mono : ∀ {c d : List Int} {n m : Int}, LeL c d → m ≤ n → LeL (sellL c n).1 (sellL d m).1 ∧ (sellL d m).2 ≤ (sellL c n).2
  | [], [], n, m, _, h => ⟨trivial, h⟩
  | x :: c, y :: d, n, m, h, e => by
    have h1 := h.1
    obtain ⟨a, b⟩ := sellL_mono (n := n - min x n) (m := m - min y m) h.2 (by omega)
    exact ⟨⟨by show x - min x n ≤ y - min y m; omega, a⟩, b⟩
  | [], _ :: _, _, _, h, _ => h.elim
  | _ :: _, [], _, _, h, _ => h.elim
theorem sellF_mono {c d : List Int} {n m : Int} (a : Nat) (h : LeL c d) (e : m ≤ n) : LeL (sellF c a n).1 (sellF d a m).1 ∧ (sellF d a m).2 ≤ (sellF c a n).2 := by
  obtain ⟨h1, h2⟩ := sellL_mono (h.drop a) e
  exact ⟨(h.take a).app h1, h2⟩
/-- a sale that succeeds does so from more, and of less -/
theorem sellF_still {c d : List Int} {n m : Int} {a : Nat} (h : LeL c d) (hd : NonNeg d) (hm : 0 ≤ m) (e : m ≤ n) (hz : (sellF c a n).2 = 0) : (sellF d a m).2 = 0 := by
  have h1 := (sellF_mono a h e).2
  have h2 := (sellF_ok (a := a) hd hm).2.2.1
  omega
theorem sellAll_mono {A V V' : Nat → Int} : ∀ (k p : Nat) {c d : List Int}, LeL c d → NonNeg d → (∀ i, i < p + k → 0 ≤ V' i ∧ V' i ≤ V i) → (sellAll A V k p c).2 = 0 → (sellAll A V' k p d).2 = 0 ∧ LeL (sellAll A V k p c).1 (sellAll A V' k p d).1
  | 0, _, _, _, h, _, _, _ => ⟨rfl, h⟩
  | k + 1, p, c, d, h, hd, hv, hz => by
    have v := hv p (by omega)
    unfold sellAll at hz ⊢
    by_cases e : (sellF c (A p).toNat (V p)).2 = 0
    · rw [if_pos e] at hz ⊢
      have e2 := sellF_still h hd v.1 v.2 e
      rw [if_pos e2]
      exact sellAll_mono k (p + 1) (sellF_mono _ h v.2).1 (sellF_ok hd v.1).1 (fun i hi => hv i (by omega)) hz
    · rw [if_neg e] at hz; cases hz
theorem yearF_mono {A V V' : Nat → Int} {n : Nat} {laid : Int} {c d : List Int} (h : LeL c d) (hd : NonNeg d) (hl : 0 ≤ laid) (hv : ∀ i, i < n → 0 ≤ V' i ∧ V' i ≤ V i) (hz : (yearF A V n laid anyRoom c).2 = 0) : (yearF A V' n laid anyRoom d).2 = 0 ∧ LeL (yearF A V n laid anyRoom c).1 (yearF A V' n laid anyRoom d).1 := by
  have g0 := hd.getD 0
  have h0 := h.get 0
  have e1 : yearF A V n laid anyRoom c = sellAll A V n 0 (c.set 0 (c.getD 0 0 + laid)) := if_pos rfl
  have e2 : yearF A V' n laid anyRoom d = sellAll A V' n 0 (d.set 0 (d.getD 0 0 + laid)) := if_pos rfl
  rw [e1] at hz ⊢
  rw [e2]
  exact sellAll_mono n 0 (h.set 0 (by omega)) (hd.set 0 (by omega)) (fun i hi => hv i (by omega)) hz
/-- amounts that come a year later -/
def lateX (X : Nat → Int) : Nat → List Int
  | 0 => List.replicate 32 0
  | k + 1 => (lateX X k).set (min (k + 1) 31) ((lateX X k).getD (min (k + 1) 31) 0 + X k)
theorem lateN_X (p : Int → Int) (c : List Int) : ∀ k, lateN p c k = lateX (fun a => p (c.getD a 0)) k
  | 0 => rfl
  | k + 1 => by
    show (lateN p c k).set _ _ = (lateX (fun a => p (c.getD a 0)) k).set _ _
    rw [lateN_X p c k]
theorem lateX_congr {X Y : Nat → Int} : ∀ k, (∀ j, j < k → X j = Y j) → lateX X k = lateX Y k
  | 0, _ => rfl
  | k + 1, h => by
    show (lateX X k).set _ ((lateX X k).getD _ 0 + X k) = (lateX Y k).set _ ((lateX Y k).getD _ 0 + Y k)
    rw [lateX_congr k (fun j hj => h j (by omega)), h k (by omega)]
theorem lateX_len (X : Nat → Int) : ∀ k, (lateX X k).length = 32
  | 0 => by simp [lateX]
  | k + 1 => by simp [lateX, lateX_len X k]
theorem lateX_mono {X Y : Nat → Int} : ∀ k, (∀ j, j < k → X j ≤ Y j) → LeL (lateX X k) (lateX Y k)
  | 0, _ => LeL.refl _
  | k + 1, h => by
    have i := lateX_mono k (fun j hj => h j (by omega))
    have a := i.get (min (k + 1) 31)
    have b := h k (by omega)
    have e : (lateX X k).getD (min (k + 1) 31) 0 + X k ≤ (lateX Y k).getD (min (k + 1) 31) 0 + Y k := by omega
    have g := LeL.set i (min (k + 1) 31) e
    simp only [lateX]
    exact g
theorem lateF_mono {p : Int → Int} {c d : List Int} (hp : ∀ x y, 0 ≤ x → x ≤ y → p x ≤ p y) (h : LeL c d) (hc : NonNeg c) : LeL (lateF p c) (lateF p d) := by
  have e1 : lateF p c = lateX (fun a => p (c.getD a 0)) 32 := lateN_X p c 32
  have e2 : lateF p d = lateX (fun a => p (d.getD a 0)) 32 := lateN_X p d 32
  rw [e1, e2]
  have g : ∀ j, j < 32 → (fun a => p (c.getD a 0)) j ≤ (fun a => p (d.getD a 0)) j := fun j _ => hp _ _ (hc.getD j) (h.get j)
  generalize (fun a => p (c.getD a 0)) = X at *
  generalize (fun a => p (d.getD a 0)) = Y at *
  generalize 32 = k at *
  exact lateX_mono k g
theorem parLo_mono {o : Otl} (h : 0 ≤ o.kl) (x y : Int) (hx : x ≤ y) : parLo o x ≤ parLo o y := Int.ediv_le_ediv (by decide) (Int.mul_le_mul_of_nonneg_right hx h)
theorem parHi_mono {o : Otl} (h : 0 ≤ o.kh) (x y : Int) (hx : x ≤ y) : parHi o x ≤ parHi o y := Int.ediv_le_ediv (by decide) (by have := Int.mul_le_mul_of_nonneg_right hx h; omega)
theorem firstC_mono {S S' : Nat → Int} {n : Nat} (h : ∀ i, i < n → S i ≤ S' i) : LeL (firstC S n) (firstC S' n) := by
  have e : (firstC S n).length = (firstC S' n).length := by rw [firstC_len, firstC_len]
  have g : ∀ j, j < (firstC S n).length → (firstC S n).getD j 0 ≤ (firstC S' n).getD j 0 := fun j hj => by
    rw [firstC_len] at hj
    have a := firstC_get S n j hj
    have b := firstC_get S' n j hj
    by_cases e : j < n
    · rw [if_pos e] at a b; rw [a, b]; exact h j e
    · rw [if_neg e] at a b; rw [a, b]; exact Int.le_refl _
  generalize firstC S n = c at *
  generalize firstC S' n = d at *
  exact LeL.of e g
end Go.Proofs.Ytdcpgjepgajioaa
