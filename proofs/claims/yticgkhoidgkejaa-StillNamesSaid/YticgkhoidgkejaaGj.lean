/- StillLasts: the walk of the law where there is no error. StillForever: Cycle with an error; what is true of runs; the law where there is an error. Contracts of the reference's Cycle, Wear, Plates. Contract of the reference's Plates. StillRuns: the walk of the law. No conditions beyond each theorem's own. -/
import Derived.Test.YticgkhoidgkejaaGg
import Derived.Test.YticgkhoidgkejaaGf
import Derived.Test.YticgkhoidgkejaaFb
import Derived.Test.YticgkhoidgkejaaGi
set_option linter.unusedVariables false
set_option linter.unusedSimpArgs false
set_option linter.unusedSectionVars false
set_option linter.constructorNameAsVariable false
namespace Go.Proofs.Yticgkhoidgkejaa
open Go.RowKit

attribute [local go_sem] gw_cell gw_frozen gw_size

theorem lasts_valid {tl th wl wh l : Int} (hE : wearErr tl th wl wh l = 0) : 0 ≤ tl ∧ tl ≤ th ∧ th ≤ 1073741824 ∧ 0 ≤ wl ∧ wl ≤ wh ∧ wh ≤ 1073741824 ∧ 0 ≤ l ∧ l ≤ tl := by
  unfold wearErr at hE
  split at hE
  · rename_i h1
    simp only [Bool.and_eq_true] at h1
    have a := spanB_t.1 h1.1
    have b := spanB_t.1 h1.2
    split at hE
    · rename_i h2
      have c := inB_t.1 h2
      split at hE
      · omega
      · omega
    · omega
  · omega

/-- two spans were boxed -/
structure Two (w W2 : World) (tl th wl wh : Int) : Prop where
  a0 : W2.cell? ⟨w.heap.size, 0, none⟩ = some (.int .i64 tl)
  a1 : W2.cell? ⟨w.heap.size, 1, none⟩ = some (.int .i64 th)
  b0 : W2.cell? ⟨w.heap.size + 1, 0, none⟩ = some (.int .i64 wl)
  b1 : W2.cell? ⟨w.heap.size + 1, 1, none⟩ = some (.int .i64 wh)
  sz : w.heap.size + 2 ≤ W2.heap.size
  low : Below w.heap.size w W2
theorem two_of (w : World) (tl th wl wh : Int) (t : TypeId) : Two w ((w.alloc (.cells #[.int .i64 tl, .int .i64 th] t)).alloc (.cells #[.int .i64 wl, .int .i64 wh] t)) tl th wl wh :=
  ⟨by simp [go_sem], by simp [go_sem], by simp [go_sem], by simp [go_sem], by simp, ((Below.refl _ w).alloc (Nat.le_refl _) _).alloc (by simp) _⟩

theorem emod_nat (k n : Nat) : ((k : Int) % (n : Int)) = ((k % n : Nat) : Int) := (Int.natCast_emod k n).symm

/-- what the numbers of runs are, case by case -/
structure Runs0 (R1 R2 wl wh : Int) : Prop where
  r1 : R1 = -1
  wh : wh = 0
  wl : wl = 0
  r2 : R2 = -1
structure Runs1 (tl wh l R1 : Int) : Prop where
  e : (R1 == -1) = false
  k1 : 0 ≤ R1
  k2 : R1 ≤ 1073741824
  k3 : 0 ≤ R1 * wh
  k4 : R1 * wh ≤ 1073741824
  k5 : 0 ≤ (R1 + 1) * wh
  k6 : (R1 + 1) * wh ≤ 2147483648
  k7 : l ≤ tl - R1 * wh
  k8 : tl - (R1 + 1) * wh < l
theorem runs_cases {tl th wl wh l : Int} (hE : wearErr tl th wl wh l = 0) :
    Runs0 (runsI tl wh l) (runsI th wl l) wl wh ∨ (Runs1 tl wh l (runsI tl wh l) ∧ ((runsI th wl l = -1 ∧ wl = 0) ∨ (Runs1 th wl l (runsI th wl l) ∧ runsI tl wh l ≤ runsI th wl l))) := by
  obtain ⟨v1, v2, v3, v4, v5, v6, v7, v8⟩ := lasts_valid hE
  have hN := lasts_num v4 v5 v2 v7 v8 v3 v6
  generalize runsI tl wh l = R1 at *
  generalize runsI th wl l = R2 at *
  have e1 : (R1 + 1) * wh = R1 * wh + wh := by rw [Int.add_mul, Int.one_mul]
  have e2 : (R2 + 1) * wl = R2 * wl + wl := by rw [Int.add_mul, Int.one_mul]
  rcases hN with ⟨h1, h2, h3, h4⟩ | ⟨k0, k1, k2, k3, k4, k5, ⟨h1, h2⟩ | ⟨q0, q1, q2, q3, q4, q5, q6⟩⟩
  · exact .inl ⟨h3, h1, h2, h4⟩
  · exact .inr ⟨⟨by simp; omega, k1, k2, k3, by omega, by omega, by omega, k4, k5⟩, .inl ⟨h2, h1⟩⟩
  · exact .inr ⟨⟨by simp; omega, k1, k2, k3, by omega, by omega, by omega, k4, k5⟩, .inr ⟨⟨by simp; omega, q2, q3, q4, by omega, by omega, by omega, q5, q6⟩, q1⟩⟩

/-- what is left, as far as the walk asks -/
theorem now_bound {tl th wl wh : Int} {n : Nat} {Y : Nat → Int} (h1 : 0 ≤ wl) (h2 : wl ≤ wh) (h3 : tl ≤ th) (h4 : 0 ≤ tl) (h5 : wh ≤ 1073741824) {k : Nat} (hk : k ≤ 101) : -200000000000 ≤ nowI tl th wl wh n Y k ∧ nowI tl th wl wh n Y k ≤ th := by
  have := nowI_range (n := n) (Y := Y) h2 h3 k
  have a : (k : Int) * wh ≤ 101 * 1073741824 := Int.mul_le_mul (by omega) h5 (by omega) (by omega)
  have b : 0 ≤ (k : Int) * wl := Int.mul_nonneg (by omega) h1
  omega
theorem now_above {tl th wl wh l R : Int} {n : Nat} {Y : Nat → Int} (h2 : wl ≤ wh) (h3 : tl ≤ th) (h0 : 0 ≤ wh) {k : Nat} (hR : l ≤ tl - R * wh) (hk : (k : Int) ≤ R) : l ≤ nowI tl th wl wh n Y k := by
  have := nowI_range (n := n) (Y := Y) h2 h3 k
  have a : (k : Int) * wh ≤ R * wh := Int.mul_le_mul_of_nonneg_right hk h0
  omega
theorem now_under {tl th wl wh l R : Int} {n : Nat} {Y : Nat → Int} (h2 : wl ≤ wh) (h3 : tl ≤ th) (h0 : 0 ≤ wl) {k : Nat} (hR : th - (R + 1) * wl < l) (hk : R < (k : Int)) : nowI tl th wl wh n Y k < l := by
  have := nowI_range (n := n) (Y := Y) h2 h3 k
  have a : (R + 1) * wl ≤ (k : Int) * wl := Int.mul_le_mul_of_nonneg_right (by omega) h0
  omega
end Go.Proofs.Yticgkhoidgkejaa

namespace Go.Proofs.Yticgkhoidgkejaa
open Go.RowKit

attribute [local go_sem] gw_cell gw_frozen gw_size

theorem cyc_valid {fl fh kl kh s l : Int} (hE : cycErr fl fh kl kh s l = 0) : spanB fl fh 0 1073741824 = true ∧ spanB kl kh 0 999 = true ∧ inB s 0 1073741824 = true ∧ inB l 0 1073741824 = true := by
  unfold cycErr at hE
  split at hE
  · rename_i h1
    split at hE
    · rename_i h2
      simp only [Bool.and_eq_true] at h1 h2
      exact ⟨h1.1, h1.2, h2.1, h2.2⟩
    · omega
  · omega

set_option maxRecDepth 100000 in
set_option maxHeartbeats 2000000 in
theorem cycle_err (fl fh kl kh s l : Int) (w : World) (x : Int) (hE : cycErr fl fh kl kh s l = x) (hx : x ≠ 0) :
    Calls Try.prog 8 #[.agg #[.int .i64 fl, .int .i64 fh], .agg #[.int .i64 kl, .int .i64 kh], .int .i64 s, .int .i64 l] w fun e w' =>
      e = .returned (.tuple #[.int .i64 0, .int .i64 0, .int .i64 x]) ∧ Below w.heap.size w w' := by
  cases a1 : spanB fl fh 0 1073741824 with
  | false =>
    obtain rfl : x = 1 := by rw [← hE]; unfold cycErr; rw [a1]; rfl
    clear hE hx
    have A1 := Lib.hid a1; clear a1
    go_enter Try.func8, Try.ntmps8
    go_wp2_with fail
    refine (Calls.grown (isSpan_b _ _ _ _ _ A1.out)).mono ?_
    rintro e w1 ⟨rfl, x, rfl⟩
    go_wp2_with fail
    go_ret3
    exact ⟨rfl, ((((Below.refl _ w).alloc (Nat.le_refl _) _).alloc (by simp) _).gw x)⟩
  | true =>
    have A1 := Lib.hid a1
    cases a2 : spanB kl kh 0 999 with
    | false =>
      obtain rfl : x = 1 := by rw [← hE]; unfold cycErr; rw [a1, a2]; rfl
      clear hE hx a1
      have A2 := Lib.hid a2; clear a2
      go_enter Try.func8, Try.ntmps8
      go_wp2_with fail
      refine (Calls.grown (isSpan_b _ _ _ _ _ A1.out)).mono ?_
      rintro e w1 ⟨rfl, x, rfl⟩
      go_wp2_with fail
      refine (Calls.gw_of (isSpan_b _ _ _ _ _ A2.out)).mono ?_
      rintro e w1 ⟨rfl, y, rfl⟩
      go_wp2_with fail
      go_ret3
      exact ⟨rfl, ((((Below.refl _ w).alloc (Nat.le_refl _) _).alloc (by simp) _).gw y)⟩
    | true =>
      have A2 := Lib.hid a2
      cases a3 : inB s 0 1073741824 with
      | false =>
        obtain rfl : x = 2 := by rw [← hE]; unfold cycErr; rw [a1, a2, a3]; rfl
        clear hE hx a1 a2
        have A3 := Lib.hid a3; clear a3
        go_enter Try.func8, Try.ntmps8
        go_wp2_with fail
        refine (Calls.grown (isSpan_b _ _ _ _ _ A1.out)).mono ?_
        rintro e w1 ⟨rfl, x, rfl⟩
        go_wp2_with fail
        refine (Calls.gw_of (isSpan_b _ _ _ _ _ A2.out)).mono ?_
        rintro e w1 ⟨rfl, y, rfl⟩
        go_wp2_with (go_at_call 18; refine (within_b _ _ _ _ A3.out).mono ?_; rintro e w1 ⟨rfl, rfl⟩)
        go_ret3
        exact ⟨rfl, ((((Below.refl _ w).alloc (Nat.le_refl _) _).alloc (by simp) _).gw y)⟩
      | true =>
        have A3 := Lib.hid a3
        cases a4 : inB l 0 1073741824 with
        | false =>
          obtain rfl : x = 2 := by rw [← hE]; unfold cycErr; rw [a1, a2, a3, a4]; rfl
          clear hE hx a1 a2 a3
          have A4 := Lib.hid a4; clear a4
          go_enter Try.func8, Try.ntmps8
          go_wp2_with fail
          refine (Calls.grown (isSpan_b _ _ _ _ _ A1.out)).mono ?_
          rintro e w1 ⟨rfl, x, rfl⟩
          go_wp2_with fail
          refine (Calls.gw_of (isSpan_b _ _ _ _ _ A2.out)).mono ?_
          rintro e w1 ⟨rfl, y, rfl⟩
          go_wp2_with (first | (go_at_call 18; refine (within_b _ _ _ _ A3.out).mono ?_; rintro e w1 ⟨rfl, rfl⟩; clear A3) | (go_at_call 18; refine (within_b _ _ _ _ A4.out).mono ?_; rintro e w1 ⟨rfl, rfl⟩; clear A4))
          go_ret3
          exact ⟨rfl, ((((Below.refl _ w).alloc (Nat.le_refl _) _).alloc (by simp) _).gw y)⟩
        | true => exact absurd (by rw [← hE]; unfold cycErr; rw [a1, a2, a3, a4]; rfl) hx

/-- run i is where Cycle ends -/
def CycEnd (F K s l : Int) (i : Nat) : Prop := (∀ j, j < i → cycF F K s j ≤ l ∧ cycF F K s j < cycF F K s (j + 1)) ∧ (l < cycF F K s i ∨ cycF F K s (i + 1) ≤ cycF F K s i)

theorem cyc_exists_from (F K s l : Int) : ∀ (m n : Nat), (l + 1 - cycF F K s n).toNat ≤ m → (∀ j, j < n → cycF F K s j ≤ l ∧ cycF F K s j < cycF F K s (j + 1)) → ∃ i, n ≤ i ∧ CycEnd F K s l i
  | 0, n, hm, h => ⟨n, Nat.le_refl _, h, .inl (by omega)⟩
  | m + 1, n, hm, h => by
    by_cases h1 : cycF F K s n ≤ l
    · by_cases h2 : cycF F K s n < cycF F K s (n + 1)
      · obtain ⟨i, hi, he⟩ := cyc_exists_from F K s l m (n + 1) (by omega) (fun j hj => by
          rcases Nat.lt_or_eq_of_le (Nat.lt_succ_iff.1 hj) with h' | h'
          · exact h j h'
          · rw [h']; exact ⟨h1, h2⟩)
        exact ⟨i, by omega, he⟩
      · exact ⟨n, Nat.le_refl _, h, .inr (by omega)⟩
    · exact ⟨n, Nat.le_refl _, h, .inl (by omega)⟩
theorem cyc_exists (F K s l : Int) : ∃ i, CycEnd F K s l i := by
  obtain ⟨i, _, h⟩ := cyc_exists_from F K s l _ 0 (Nat.le_refl _) (fun j hj => by omega)
  exact ⟨i, h⟩

theorem upI_mono {a b c : Int} (hc : 1 ≤ c) (h : a ≤ b) : upI a c ≤ upI b c := by unfold upI; exact Int.ediv_le_ediv (by omega) (by omega)

/-- behind a run that does not rise none rises above it -/
theorem cyc_after {F K s : Int} (hK : 0 ≤ K) {i : Nat} (h : cycF F K s (i + 1) ≤ cycF F K s i) : ∀ j, cycF F K s (i + j) ≤ cycF F K s i
  | 0 => Int.le_refl _
  | j + 1 => by
    have ih := cyc_after hK h j
    have : cycF F K s (i + (j + 1)) ≤ cycF F K s (i + 1) := by
      show upI ((cycF F K s (i + j) + F) * K) 1000 ≤ upI ((cycF F K s i + F) * K) 1000
      exact upI_mono (by omega) (Int.mul_le_mul_of_nonneg_right (by omega) hK)
    omega
theorem cyc_before {F K s l : Int} {i : Nat} (h : ∀ j, j < i → cycF F K s j ≤ l ∧ cycF F K s j < cycF F K s (j + 1)) : ∀ d j, j + d = i → cycF F K s j ≤ cycF F K s i
  | 0, j, e => by rw [show j = i by omega]; exact Int.le_refl _
  | d + 1, j, e => by
    have := cyc_before h d (j + 1) (by omega)
    have := (h j (by omega)).2
    omega

/-- never more than where Cycle ends, if that is not above the limit -/
theorem cyc_max {F K s l : Int} (hK : 0 ≤ K) {i : Nat} (h : CycEnd F K s l i) (hl : cycF F K s i ≤ l) (j : Nat) : cycF F K s j ≤ cycF F K s i := by
  rcases Nat.le_total j i with h1 | h1
  · exact cyc_before h.1 (i - j) j (by omega)
  · obtain ⟨d, rfl⟩ : ∃ d, j = i + d := ⟨j - i, by omega⟩
    rcases h.2 with h2 | h2
    · omega
    · exact cyc_after hK h2 d

/-- what truly returns -/
def retF (fl fh kl kh s : Int) (n : Nat) (Y : Nat → Int) : Nat → Int
  | 0 => s
  | k + 1 => innerI ((retF fl fh kl kh s n Y k + innerI fl fh (Y ((k + 1) % n))) * innerI kl kh (Y (k % n)) / 1000) (((retF fl fh kl kh s n Y k + innerI fl fh (Y ((k + 1) % n))) * innerI kl kh (Y (k % n)) + 999) / 1000) (Y ((k + 2) % n))

theorem ret_step {f g x k F K : Int} (h0 : 0 ≤ f) (hf : f ≤ g) (hx0 : 0 ≤ x) (hx : x ≤ F) (hk0 : 0 ≤ k) (hk : k ≤ K) : 0 ≤ (f + x) * k ∧ (f + x) * k ≤ (g + F) * K := by
  exact ⟨Int.mul_nonneg (by omega) hk0, Int.mul_le_mul (by omega) hk hk0 (by omega)⟩

theorem retF_le {fl fh kl kh s : Int} {n : Nat} {Y : Nat → Int} (h1 : 0 ≤ fl) (h2 : fl ≤ fh) (h3 : 0 ≤ kl) (h4 : kl ≤ kh) (hs : 0 ≤ s) : ∀ k, 0 ≤ retF fl fh kl kh s n Y k ∧ retF fl fh kl kh s n Y k ≤ cycF fh kh s k
  | 0 => ⟨hs, Int.le_refl _⟩
  | k + 1 => by
    have ih := retF_le (n := n) (Y := Y) h1 h2 h3 h4 hs k
    have a := innerI_range (b := Y ((k + 1) % n)) h2
    have b := innerI_range (b := Y (k % n)) h4
    have st := ret_step ih.1 ih.2 (show 0 ≤ innerI fl fh (Y ((k + 1) % n)) by omega) a.2 (show 0 ≤ innerI kl kh (Y (k % n)) by omega) b.2
    unfold retF
    show _ ∧ _ ≤ upI ((cycF fh kh s k + fh) * kh) 1000
    unfold upI
    generalize (retF fl fh kl kh s n Y k + innerI fl fh (Y ((k + 1) % n))) * innerI kl kh (Y (k % n)) = p at *
    have c := innerI_range (lo := p / 1000) (hi := (p + 999) / 1000) (b := Y ((k + 2) % n)) (by omega)
    omega

end Go.Proofs.Yticgkhoidgkejaa

namespace Go.Proofs.Yticgkhoidgkejaa
open Go.RowKit

attribute [local go_sem] gw_cell gw_frozen gw_size
attribute [local go_sem ↓] run_maxZ

theorem cyc_dec {F K s : Int} (hK : 0 ≤ K) {i : Nat} (h : cycF F K s (i + 1) ≤ cycF F K s i) : ∀ d, cycF F K s (i + d + 1) ≤ cycF F K s (i + d)
  | 0 => h
  | d + 1 => by
    have ih := cyc_dec hK h d
    show upI ((cycF F K s (i + d + 1) + F) * K) 1000 ≤ upI ((cycF F K s (i + d) + F) * K) 1000
    exact upI_mono (by omega) (Int.mul_le_mul_of_nonneg_right (by omega) hK)
theorem cyc_nonneg {F K s : Int} (h0 : 0 ≤ s) (hF : 0 ≤ F) (hK : 0 ≤ K) : ∀ j, 0 ≤ cycF F K s j
  | 0 => h0
  | j + 1 => upI_nonneg (Int.mul_nonneg (by have := cyc_nonneg h0 hF hK j; omega) hK) (by omega)
/-- the greatest one up to the last run -/
def mostAt (F K s : Int) (i j : Nat) : Int := cycF F K s (min (j - 1) i)
theorem cyc_down {F K s : Int} {i : Nat} (h : ∀ d, cycF F K s (i + d + 1) ≤ cycF F K s (i + d)) : ∀ d, cycF F K s (i + d) ≤ cycF F K s i
  | 0 => Int.le_refl _
  | d + 1 => Int.le_trans (h d) (cyc_down h d)
theorem most_next {F K s l : Int} {i : Nat} (_ : True) (g : ∀ j, j < i → cycF F K s j ≤ l ∧ cycF F K s j < cycF F K s (j + 1)) (h : ∀ d, cycF F K s (i + d + 1) ≤ cycF F K s (i + d)) (j : Nat) : maxZ (mostAt F K s i j) (cycF F K s j) = mostAt F K s i (j + 1) := by
  rw [maxZ_eq]
  unfold mostAt
  rw [Nat.add_sub_cancel]
  rcases Nat.lt_or_ge i j with hj | hj
  · rw [Nat.min_eq_right (by omega), Nat.min_eq_right (by omega)]
    have := cyc_down h (j - i)
    rw [show i + (j - i) = j by omega] at this
    omega
  · rw [Nat.min_eq_left (by omega), Nat.min_eq_left hj]
    by_cases h0 : j = 0
    · subst h0; simp
    · have := (g (j - 1) (by omega)).2
      rw [show j - 1 + 1 = j by omega] at this
      omega

end Go.Proofs.Yticgkhoidgkejaa

namespace Go.Proofs.Yticgkhoidgkejaa
open Go.RowKit

attribute [local go_sem] gw_cell gw_frozen gw_size field_lo field_hi

/-- the first of so many that reaches t, or -1 -/
def cntJ (q : Nat → Int) (t : Int) (j : Nat) : Int := if firstGe q t j < j then firstGe q t j else -1
theorem cntJ_pos {q : Nat → Int} {t : Int} {j : Nat} (h : ¬ cntJ q t j < 0) : cntJ q t (j + 1) = cntJ q t j := by
  unfold cntJ at h ⊢
  split at h
  · rename_i h1
    have e : firstGe q t (j + 1) = firstGe q t j := by
      conv => lhs; unfold firstGe
      rw [if_neg (by omega)]
    rw [e, if_pos (by omega), if_pos h1]
  · omega
theorem cntJ_lt {q : Nat → Int} {t : Int} {j : Nat} (h : q j < t) : cntJ q t (j + 1) = cntJ q t j := by
  by_cases hp : cntJ q t j < 0
  · unfold cntJ at hp ⊢
    split at hp
    · omega
    · rename_i h1
      have := firstGe_le q t j
      have e : firstGe q t (j + 1) = j + 1 := by
        conv => lhs; unfold firstGe
        rw [if_pos ⟨by omega, h⟩]
      rw [e, if_neg (by omega), if_neg h1]
  · exact cntJ_pos hp
theorem cntJ_ge {q : Nat → Int} {t : Int} {j : Nat} (h : t ≤ q j) (hp : cntJ q t j < 0) : cntJ q t (j + 1) = j := by
  unfold cntJ at hp ⊢
  split at hp
  · omega
  · have := firstGe_le q t j
    have e : firstGe q t (j + 1) = j := by
      conv => lhs; unfold firstGe
      rw [if_neg (by omega)]
      omega
    rw [e, if_pos (by omega)]
theorem cntJ_zero (q : Nat → Int) (t : Int) : cntJ q t 0 = -1 := rfl
theorem cntJ_end (q : Nat → Int) (t : Int) : cntJ q t 101 = countI q t := rfl
/-- how the number turns in a round -/
theorem cntJ_cases (q : Nat → Int) (t : Int) (j : Nat) :
    (q j < t ∧ cntJ q t (j + 1) = cntJ q t j) ∨ (t ≤ q j ∧ ¬ cntJ q t j < 0 ∧ cntJ q t (j + 1) = cntJ q t j) ∨ (t ≤ q j ∧ cntJ q t j < 0 ∧ cntJ q t (j + 1) = j) := by
  by_cases h : q j < t
  · exact .inl ⟨h, cntJ_lt h⟩
  · by_cases hp : cntJ q t j < 0
    · exact .inr (.inr ⟨by omega, hp, cntJ_ge (by omega) hp⟩)
    · exact .inr (.inl ⟨by omega, hp, cntJ_pos hp⟩)

end Go.Proofs.Yticgkhoidgkejaa

namespace Go.Proofs.Yticgkhoidgkejaa
open Go.RowKit

attribute [local go_sem] gw_cell gw_frozen gw_size

def Three (a b x : Int) (w : World) (e : Ending) (w' : World) : Prop := e = .returned (.tuple #[.int .i64 a, .int .i64 b, .int .i64 x]) ∧ Below w.heap.size w w'

/-- four spans and a curve were boxed -/
structure RB (w W : World) (fl fh kl kh tl th wl wh : Int) (aL aV : Option Addr) (n m cL cV : Nat) : Prop where
  f0 : W.cell? ⟨w.heap.size, 0, none⟩ = some (.int .i64 fl)
  f1 : W.cell? ⟨w.heap.size, 1, none⟩ = some (.int .i64 fh)
  k0 : W.cell? ⟨w.heap.size + 1, 0, none⟩ = some (.int .i64 kl)
  k1 : W.cell? ⟨w.heap.size + 1, 1, none⟩ = some (.int .i64 kh)
  t0 : W.cell? ⟨w.heap.size + 1 + 1, 0, none⟩ = some (.int .i64 tl)
  t1 : W.cell? ⟨w.heap.size + 1 + 1, 1, none⟩ = some (.int .i64 th)
  w0 : W.cell? ⟨w.heap.size + 1 + 1 + 1, 0, none⟩ = some (.int .i64 wl)
  w1 : W.cell? ⟨w.heap.size + 1 + 1 + 1, 1, none⟩ = some (.int .i64 wh)
  c0 : W.cell? ⟨w.heap.size + 1 + 1 + 1 + 1, 0, none⟩ = some (.slice aL n cL)
  c1 : W.cell? ⟨w.heap.size + 1 + 1 + 1 + 1, 1, none⟩ = some (.slice aV m cV)
  sz : w.heap.size + 5 ≤ W.heap.size
  low : Below w.heap.size w W
theorem rb_of (w : World) (fl fh kl kh tl th wl wh : Int) (aL aV : Option Addr) (n m cL cV : Nat) (t t' : TypeId) :
    RB w (((((w.alloc (.cells #[.int .i64 fl, .int .i64 fh] t)).alloc (.cells #[.int .i64 kl, .int .i64 kh] t)).alloc (.cells #[.int .i64 tl, .int .i64 th] t)).alloc (.cells #[.int .i64 wl, .int .i64 wh] t)).alloc (.cells #[.slice aL n cL, .slice aV m cV] t')) fl fh kl kh tl th wl wh aL aV n m cL cV := by
  obtain ⟨z0, z1, z2, z3, z4, z5⟩ := five_blocks w (.cells #[.int .i64 fl, .int .i64 fh] t) (.cells #[.int .i64 kl, .int .i64 kh] t) (.cells #[.int .i64 tl, .int .i64 th] t) (.cells #[.int .i64 wl, .int .i64 wh] t) (.cells #[.slice aL n cL, .slice aV m cV] t')
  exact ⟨cell_of_block z1 0 (by simp), cell_of_block z1 1 (by simp), cell_of_block z2 0 (by simp), cell_of_block z2 1 (by simp), cell_of_block z3 0 (by simp), cell_of_block z3 1 (by simp), cell_of_block z4 0 (by simp), cell_of_block z4 1 (by simp), cell_of_block z5 0 (by simp), cell_of_block z5 1 (by simp), by rw [z0]; omega,
    (((((Below.refl _ w).alloc (Nat.le_refl _) _).alloc (by simp) _).alloc (by simp; omega) _).alloc (by simp; omega) _).alloc (by simp; omega) _⟩

end Go.Proofs.Yticgkhoidgkejaa
