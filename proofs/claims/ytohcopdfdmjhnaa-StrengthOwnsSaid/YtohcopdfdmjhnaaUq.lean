/- Plain laws of mixtures: their order, what is true, a part alone. No conditions beyond each theorem's own. -/
import Derived.Test.YtohcopdfdmjhnaaTb
import Derived.Test.YtohcopdfdmjhnaaAj
import Derived.Test.YtohcopdfdmjhnaaSw
set_option linter.unusedVariables false
set_option linter.unusedSimpArgs false
set_option linter.unusedSectionVars false
set_option linter.constructorNameAsVariable false
namespace Go.Proofs.Ytohcopdfdmjhnaa.L1
open Go.RowKit
open Go.Proofs.Ytohcopdfdmjhnaa

attribute [local go_sem] gw_cell gw_frozen gw_size

/-! the order of parts -/
theorem sumI_shift (f : Nat → Int) : ∀ n, sumI f (n + 1) = f 0 + sumI (fun i => f (i + 1)) n
  | 0 => by simp [sumI]
  | n + 1 => by
    have h := sumI_shift f n
    have e1 : sumI f (n + 1 + 1) = sumI f (n + 1) + f (n + 1) := rfl
    have e2 : sumI (fun i => f (i + 1)) (n + 1) = sumI (fun i => f (i + 1)) n + f (n + 1) := rfl
    rw [e1, e2, h]; omega
theorem sumI_congr {f g : Nat → Int} : ∀ n, (∀ i, i < n → f i = g i) → sumI f n = sumI g n
  | 0, _ => rfl
  | n + 1, h => by
    have a := sumI_congr n (fun i hi => h i (by omega))
    have b := h n (by omega)
    show sumI f n + f n = sumI g n + g n
    rw [a, b]
theorem sumI_rot1 (f : Nat → Int) (n : Nat) : sumI (fun i => f ((i + 1) % n)) n = sumI f n := by
  cases n with
  | zero => rfl
  | succ n =>
    rw [sumI_shift f n]
    show sumI (fun i => f ((i + 1) % (n + 1))) n + f ((n + 1) % (n + 1)) = _
    rw [Nat.mod_self, sumI_congr (g := fun i => f (i + 1)) n (fun i hi => by rw [Nat.mod_eq_of_lt (by omega)])]
    omega
theorem sumI_rot (f : Nat → Int) (n : Nat) : ∀ r, sumI (fun i => f ((i + r) % n)) n = sumI f n
  | 0 => sumI_congr n (fun i hi => by rw [Nat.add_zero, Nat.mod_eq_of_lt hi])
  | r + 1 => by
    have h := sumI_rot1 (fun i => f ((i + r) % n)) n
    rw [sumI_rot f n r] at h
    rw [← h]
    refine sumI_congr n (fun i hi => ?_)
    show f ((i + (r + 1)) % n) = f (((i + 1) % n + r) % n)
    rw [Nat.mod_add_mod, show i + (r + 1) = i + 1 + r by omega]
theorem allB_rot (p : Nat → Bool) (n r : Nat) : allB n (fun i => p ((i + r) % n)) = allB n p := by
  cases h : allB n p with
  | true =>
    refine allB_t.2 fun i hi => allB_t.1 h _ (Nat.mod_lt _ (by omega))
  | false =>
    cases h2 : allB n (fun i => p ((i + r) % n)) with
    | false => rfl
    | true =>
      have : allB n p = true := allB_t.2 fun j hj => by
        -- j = (i + r) % n for i = (j + (n - r % n)) % n
        have k := allB_t.1 h2 ((j + (n - r % n)) % n) (Nat.mod_lt _ (by omega))
        have m := Nat.mod_lt r (show n > 0 by omega)
        have e : ((j + (n - r % n)) % n + r) % n = j := by
          rw [Nat.mod_add_mod]
          have d := Nat.mod_add_div r n
          rw [show j + (n - r % n) + r = j + n * (1 + r / n) by rw [Nat.mul_add, Nat.mul_one]; omega, Nat.add_mul_mod_self_left, Nat.mod_eq_of_lt hj]
        simp only [e] at k
        exact k
      rw [h] at this; exact this.symm
def rotP (P : Nat → Prt) (n r : Nat) (i : Nat) : Prt := P ((i + r) % n)
theorem mixE_rot (n : Nat) (P : Nat → Prt) (r : Nat) (k : Int) : mixE n (rotP P n r) k = mixE n P k := by
  have e1 : allB n (fun i => (rotP P n r i).ok) = allB n (fun i => (P i).ok) := allB_rot (fun i => (P i).ok) n r
  have e2 : mAh (rotP P n r) n = mAh P n := sumI_rot (fun i => (P i).ah) n r
  have e3 : mAl (rotP P n r) n = mAl P n := sumI_rot (fun i => (P i).al) n r
  unfold mixE
  rw [e1, e2, e3]
theorem mixV_rot (n : Nat) (P : Nat → Prt) (r : Nat) (k : Int) : mixV n (rotP P n r) k = mixV n P k := by
  have e2 : mAh (rotP P n r) n = mAh P n := sumI_rot (fun i => (P i).ah) n r
  have e3 : mAl (rotP P n r) n = mAl P n := sumI_rot (fun i => (P i).al) n r
  have e4 : mLl (rotP P n r) n = mLl P n := sumI_rot (fun i => puLo (P i).al (P i).sl) n r
  have e5 : mLh (rotP P n r) n = mLh P n := sumI_rot (fun i => puHi (P i).ah (P i).sh) n r
  unfold mixV mLeast
  rw [mixE_rot, e2, e3, e4, e5]
def Prt.num (x : Prt) : Nat → Int
  | 0 => x.al
  | 1 => x.ah
  | 2 => x.sl
  | _ => x.sh
theorem parts_of_tups {w : World} {a : Option Addr} {n : Nat} {T : Nat → Prt} (h : TupsAt w a 4 n (fun i q => (T i).num q)) : PartsAt w a n T := by
  rcases h with h | ⟨b, off, rfl, lb, hc⟩
  · exact .inl h
  · exact .inr ⟨b, off, rfl, lb, fun i hi => ⟨hc i hi 0 (by omega), hc i hi 1 (by omega), hc i hi 2 (by omega), hc i hi 3 (by omega)⟩⟩
theorem infoPr5 : (Try.prog.info? 43).map (fun i => (i.zero, i.size, i.bytes)) = some (some (.agg #[.int .i64 0, .int .i64 0, .int .i64 0, .int .i64 0]), 4, 32) := by kernel_rfl

/-! what is true -/
def tA (P : Nat → Prt) (m : Nat) (B : Nat → Int) (i : Nat) : Int := innerI (P i).al (P i).ah (B (i % m))
def tS (P : Nat → Prt) (m : Nat) (B : Nat → Int) (i : Nat) : Int := innerI (P i).sl (P i).sh (B ((i + 1) % m))
def sA (P : Nat → Prt) (m : Nat) (B : Nat → Int) : Nat → Int := sumI (tA P m B)
def sC (P : Nat → Prt) (m : Nat) (B : Nat → Int) : Nat → Int := sumI fun i => tA P m B i * tS P m B i
structure TruB (P : Nat → Prt) (m : Nat) (B : Nat → Int) (k : Nat) : Prop where
  a0 : mAl P k ≤ sA P m B k
  a1 : sA P m B k ≤ mAh P k
  c0 : 10000 * mLl P k ≤ sC P m B k
  c1 : sC P m B k ≤ 10000 * mLh P k
theorem sumI_mul (c : Int) (f : Nat → Int) : ∀ n, sumI (fun i => c * f i) n = c * sumI f n
  | 0 => by simp [sumI]
  | n + 1 => by
    show sumI (fun i => c * f i) n + c * f n = c * (sumI f n + f n)
    rw [sumI_mul c f n, Int.mul_add]
theorem tru_in {x : Prt} {u v : Int} (hok : x.ok = true) : (x.al ≤ innerI x.al x.ah u ∧ innerI x.al x.ah u ≤ x.ah) ∧ (x.sl ≤ innerI x.sl x.sh v ∧ innerI x.sl x.sh v ≤ x.sh) ∧ 10000 * puLo x.al x.sl ≤ innerI x.al x.ah u * innerI x.sl x.sh v ∧ innerI x.al x.ah u * innerI x.sl x.sh v ≤ 10000 * puHi x.ah x.sh := by
  obtain ⟨q1, q2, q3, q4, q5, q6⟩ := partB_t hok
  have a := innerI_range (b := u) q2
  have s := innerI_range (b := v) q5
  have m1 := Int.mul_le_mul a.1 s.1 q4 (by omega)
  have m2 := Int.mul_le_mul a.2 s.2 (by omega) (by omega)
  refine ⟨a, s, ?_, ?_⟩
  · unfold puLo; omega
  · unfold puHi upI; omega
theorem tru_b {P : Nat → Prt} {n m : Nat} {B : Nat → Int} (h : ∀ i, i < n → (P i).ok = true) {k : Nat} (hk : k ≤ n) : TruB P m B k := by
  refine ⟨sumI_mono (n := n) (fun i hi => (tru_in (v := 0) (h i hi)).1.1) k hk, sumI_mono (n := n) (fun i hi => (tru_in (v := 0) (h i hi)).1.2) k hk, ?_, ?_⟩
  · rw [show 10000 * mLl P k = sumI (fun i => 10000 * puLo (P i).al (P i).sl) k from (sumI_mul _ _ _).symm]; exact sumI_mono (n := n) (fun i hi => (tru_in (u := B (i % m)) (v := B ((i + 1) % m)) (h i hi)).2.2.1) k hk
  · rw [show 10000 * mLh P k = sumI (fun i => 10000 * puHi (P i).ah (P i).sh) k from (sumI_mul _ _ _).symm]; exact sumI_mono (n := n) (fun i hi => (tru_in (u := B (i % m)) (v := B ((i + 1) % m)) (h i hi)).2.2.2) k hk
/-- what is true of a mixture -/
theorem mix_true {al ah ll lh A C s k Z q r : Int} (h0 : 1 ≤ al) (h1 : al ≤ A) (h2 : A ≤ ah) (l0 : 0 ≤ ll) (l2 : 10000 * ll ≤ C) (l3 : C ≤ 10000 * lh) (s0 : 0 ≤ s) (s1 : s ≤ 1000) (k0 : 0 ≤ k) (k1 : k ≤ s) (hZ : al * (10000 - s) = Z)
    (hq : min 10000 (ll * 10000 / ah) = q) (hr : min 10000 (upI (lh * 10000 * 10000) Z) = r) :
    Z / 10000 ≤ A - A * k / 10000 ∧ q ≤ r ∧ q * A ≤ C ∧ (r < 10000 → C ≤ r * (A - A * k / 10000)) := by
  have z1 := Int.mul_le_mul h0 (show (9000 : Int) ≤ 10000 - s by omega) (by omega) (by omega)
  have z2 := Int.mul_le_mul h1 (show 10000 - s ≤ 10000 - k by omega) (by omega) (by omega)
  rw [hZ] at z1 z2
  rw [Int.mul_sub] at z2
  have z3 := Int.mul_le_mul_of_nonneg_left (show 10000 - s ≤ 10000 by omega) (show 0 ≤ al by omega)
  rw [hZ] at z3
  obtain ⟨Lw, hLw⟩ : ∃ L, A - A * k / 10000 = L := ⟨_, rfl⟩
  have z4 : Z ≤ Lw * 10000 := by omega
  -- q
  have e1 := Int.mul_ediv_add_emod (ll * 10000) ah
  have m1 := Int.emod_nonneg (ll * 10000) (show ah ≠ 0 by omega)
  obtain ⟨q', hq'⟩ : ∃ x, ll * 10000 / ah = x := ⟨_, rfl⟩
  have q0 : 0 ≤ q' := by rw [← hq']; exact Int.ediv_nonneg (by omega) (by omega)
  rw [hq'] at e1 hq
  have qq : 0 ≤ q ∧ q ≤ q' ∧ q ≤ 10000 := by omega
  have f1 := Int.mul_le_mul qq.2.1 h2 (by omega) q0
  rw [Int.mul_comm q' ah] at f1
  refine ⟨?_, ?_, by omega, ?_⟩
  · rw [hLw]; omega
  · -- q ≤ r
    have hu : q ≤ upI (lh * 10000 * 10000) Z := by
      unfold upI
      refine Int.le_ediv_of_mul_le (by omega) ?_
      have f2 := Int.mul_le_mul_of_nonneg_left z3 qq.1
      have f3 := Int.mul_le_mul_of_nonneg_left h1 qq.1
      have f4 : q * (al * 10000) = q * al * 10000 := by rw [Int.mul_assoc]
      rw [f4] at f2
      omega
    omega
  · intro hlt
    rw [hLw]
    have hr' : upI (lh * 10000 * 10000) Z = r := by omega
    have e2 := Int.mul_ediv_add_emod (lh * 10000 * 10000 + Z - 1) Z
    have m2 := Int.emod_lt_of_pos (lh * 10000 * 10000 + Z - 1) (show 0 < Z by omega)
    unfold upI at hr'
    rw [hr'] at e2
    have f5 := Int.mul_le_mul_of_nonneg_right z4 (show 0 ≤ r by
      rw [← hr']; exact Int.ediv_nonneg (by omega) (by omega))
    have f6 : Lw * 10000 * r = r * Lw * 10000 := by rw [Int.mul_comm (Lw * 10000) r, ← Int.mul_assoc]
    rw [f6] at f5
    omega
/-- a part alone -/
theorem mix_one (x : Prt) (hok : x.ok = true) (h1 : x.al = x.ah) (h2 : 0 < x.al) (T : Nat → Prt) (hT : T 0 = x) : mixE 1 T 0 = 0 ∧ ∃ a b, mixV 1 T 0 = ⟨x.al, x.ah, a, b⟩ ∧ a ≤ x.sl ∧ x.sh ≤ b := by
  obtain ⟨q1, q2, q3, q4, q5, q6⟩ := partB_t hok
  have a1 : mAl T 1 = x.al := by show (0 : Int) + (T 0).al = _; rw [hT]; omega
  have a2 : mAh T 1 = x.ah := by show (0 : Int) + (T 0).ah = _; rw [hT]; omega
  have a3 : mLl T 1 = puLo x.al x.sl := by show (0 : Int) + puLo (T 0).al (T 0).sl = _; rw [hT]; omega
  have a4 : mLh T 1 = puHi x.ah x.sh := by show (0 : Int) + puHi (T 0).ah (T 0).sh = _; rw [hT]; omega
  have all : allB 1 (fun i => (T i).ok) = true := allB_t.2 fun i hi => by
    obtain rfl : i = 0 := by omega
    show (T 0).ok = true; rw [hT]; exact hok
  have hE : mixE 1 T 0 = 0 := by
    unfold mixE
    rw [if_neg (by omega), if_pos all, if_pos (by decide), a1, a2, if_neg (by omega), if_neg (by omega)]
  refine ⟨hE, _, _, by unfold mixV mLeast; rw [if_pos hE, a1, a2, a3, a4, show x.al * (10000 - 0) / 10000 = x.al by omega], ?_, ?_⟩
  · refine Int.le_trans (Int.min_le_right _ _) ?_
    unfold puLo
    refine Int.ediv_le_of_le_mul (by omega) ?_
    rw [h1, Int.mul_comm x.sl x.ah]; omega
  · refine Int.le_min.2 ⟨q6, ?_⟩
    unfold upI
    refine Int.le_ediv_of_mul_le (by omega) ?_
    unfold puHi upI
    rw [h1]
    have e : x.sh * (x.ah * (10000 - 0)) = x.ah * x.sh * 10000 := by rw [show (10000 : Int) - 0 = 10000 by omega, ← Int.mul_assoc, Int.mul_comm x.sh x.ah]
    rw [e]
    omega
end Go.Proofs.Ytohcopdfdmjhnaa.L1
