/- StillLasts: the walk of the law where there is no error. StillForever: Cycle with an error; what is true of runs; the law where there is an error. Contracts of the reference's Cycle, Wear, Plates. Contract of the reference's Plates. StillRuns: the walk of the law. No conditions beyond each theorem's own. -/
import Derived.Test.YtnmldophadanbaaGg
import Derived.Test.YtnmldophadanbaaGf
import Derived.Test.YtnmldophadanbaaFb
import Derived.Test.YtnmldophadanbaaGi
set_option linter.unusedVariables false
set_option linter.unusedSimpArgs false
set_option linter.unusedSectionVars false
set_option linter.constructorNameAsVariable false
namespace Go.Proofs.Ytnmldophadanbaa
open Go.RowKit

attribute [local go_sem] gw_cell gw_frozen gw_size

theorem lasts_valid {tl th wl wh l : Int} (hE : wearErr tl th wl wh l = 0) : 0 ≤ tl ∧ tl ≤ th ∧ th ≤ 1073741824 ∧ 0 ≤ wl ∧ wl ≤ wh ∧ wh ≤ 1073741824 ∧ 0 ≤ l ∧ l ≤ tl := by
  unfold wearErr at hE
  split at hE
  · rename_i h1
    simp only [Bool.and_eq_true] at h1
    have a := spanB_t.1 h1.1
    have b := spanB_t.1 h1.2
    split at hE
    · rename_i h2
      have c := inB_t.1 h2
      split at hE
      · omega
      · omega
    · omega
  · omega

/-- two spans were boxed -/
structure Two (w W2 : World) (tl th wl wh : Int) : Prop where
  a0 : W2.cell? ⟨w.heap.size, 0, none⟩ = some (.int .i64 tl)
  a1 : W2.cell? ⟨w.heap.size, 1, none⟩ = some (.int .i64 th)
  b0 : W2.cell? ⟨w.heap.size + 1, 0, none⟩ = some (.int .i64 wl)
  b1 : W2.cell? ⟨w.heap.size + 1, 1, none⟩ = some (.int .i64 wh)
  sz : w.heap.size + 2 ≤ W2.heap.size
  low : Below w.heap.size w W2
theorem two_of (w : World) (tl th wl wh : Int) (t : TypeId) : Two w ((w.alloc (.cells #[.int .i64 tl, .int .i64 th] t)).alloc (.cells #[.int .i64 wl, .int .i64 wh] t)) tl th wl wh :=
  ⟨by simp [go_sem], by simp [go_sem], by simp [go_sem], by simp [go_sem], by simp, ((Below.refl _ w).alloc (Nat.le_refl _) _).alloc (by simp) _⟩

theorem emod_nat (k n : Nat) : ((k : Int) % (n : Int)) = ((k % n : Nat) : Int) := (Int.natCast_emod k n).symm

/-- what the numbers of runs are, case by case -/
structure Runs0 (R1 R2 wl wh : Int) : Prop where
  r1 : R1 = -1
  wh : wh = 0
  wl : wl = 0
  r2 : R2 = -1
structure Runs1 (tl wh l R1 : Int) : Prop where
  e : (R1 == -1) = false
  k1 : 0 ≤ R1
  k2 : R1 ≤ 1073741824
  k3 : 0 ≤ R1 * wh
  k4 : R1 * wh ≤ 1073741824
  k5 : 0 ≤ (R1 + 1) * wh
  k6 : (R1 + 1) * wh ≤ 2147483648
  k7 : l ≤ tl - R1 * wh
  k8 : tl - (R1 + 1) * wh < l
theorem runs_cases {tl th wl wh l : Int} (hE : wearErr tl th wl wh l = 0) :
    Runs0 (runsI tl wh l) (runsI th wl l) wl wh ∨ (Runs1 tl wh l (runsI tl wh l) ∧ ((runsI th wl l = -1 ∧ wl = 0) ∨ (Runs1 th wl l (runsI th wl l) ∧ runsI tl wh l ≤ runsI th wl l))) := by
  obtain ⟨v1, v2, v3, v4, v5, v6, v7, v8⟩ := lasts_valid hE
  have hN := lasts_num v4 v5 v2 v7 v8 v3 v6
  generalize runsI tl wh l = R1 at *
  generalize runsI th wl l = R2 at *
  have e1 : (R1 + 1) * wh = R1 * wh + wh := by rw [Int.add_mul, Int.one_mul]
  have e2 : (R2 + 1) * wl = R2 * wl + wl := by rw [Int.add_mul, Int.one_mul]
  rcases hN with ⟨h1, h2, h3, h4⟩ | ⟨k0, k1, k2, k3, k4, k5, ⟨h1, h2⟩ | ⟨q0, q1, q2, q3, q4, q5, q6⟩⟩
  · exact .inl ⟨h3, h1, h2, h4⟩
  · exact .inr ⟨⟨by simp; omega, k1, k2, k3, by omega, by omega, by omega, k4, k5⟩, .inl ⟨h2, h1⟩⟩
  · exact .inr ⟨⟨by simp; omega, k1, k2, k3, by omega, by omega, by omega, k4, k5⟩, .inr ⟨⟨by simp; omega, q2, q3, q4, by omega, by omega, by omega, q5, q6⟩, q1⟩⟩

/-- what is left, as far as the walk asks -/
theorem now_bound {tl th wl wh : Int} {n : Nat} {Y : Nat → Int} (h1 : 0 ≤ wl) (h2 : wl ≤ wh) (h3 : tl ≤ th) (h4 : 0 ≤ tl) (h5 : wh ≤ 1073741824) {k : Nat} (hk : k ≤ 101) : -200000000000 ≤ nowI tl th wl wh n Y k ∧ nowI tl th wl wh n Y k ≤ th := by
  have := nowI_range (n := n) (Y := Y) h2 h3 k
  have a : (k : Int) * wh ≤ 101 * 1073741824 := Int.mul_le_mul (by omega) h5 (by omega) (by omega)
  have b : 0 ≤ (k : Int) * wl := Int.mul_nonneg (by omega) h1
  omega
theorem now_above {tl th wl wh l R : Int} {n : Nat} {Y : Nat → Int} (h2 : wl ≤ wh) (h3 : tl ≤ th) (h0 : 0 ≤ wh) {k : Nat} (hR : l ≤ tl - R * wh) (hk : (k : Int) ≤ R) : l ≤ nowI tl th wl wh n Y k := by
  have := nowI_range (n := n) (Y := Y) h2 h3 k
  have a : (k : Int) * wh ≤ R * wh := Int.mul_le_mul_of_nonneg_right hk h0
  omega
theorem now_under {tl th wl wh l R : Int} {n : Nat} {Y : Nat → Int} (h2 : wl ≤ wh) (h3 : tl ≤ th) (h0 : 0 ≤ wl) {k : Nat} (hR : th - (R + 1) * wl < l) (hk : R < (k : Int)) : nowI tl th wl wh n Y k < l := by
  have := nowI_range (n := n) (Y := Y) h2 h3 k
  have a : (R + 1) * wl ≤ (k : Int) * wl := Int.mul_le_mul_of_nonneg_right (by omega) h0
  omega
end Go.Proofs.Ytnmldophadanbaa

namespace Go.Proofs.Ytnmldophadanbaa
open Go.RowKit

attribute [local go_sem] gw_cell gw_frozen gw_size

theorem cyc_valid {fl fh kl kh s l : Int} (hE : cycErr fl fh kl kh s l = 0) : spanB fl fh 0 1073741824 = true ∧ spanB kl kh 0 999 = true ∧ inB s 0 1073741824 = true ∧ inB l 0 1073741824 = true := by
  unfold cycErr at hE
  split at hE
  · rename_i h1
    split at hE
    · rename_i h2
      simp only [Bool.and_eq_true] at h1 h2
      exact ⟨h1.1, h1.2, h2.1, h2.2⟩
    · omega
  · omega

set_option maxRecDepth 100000 in
set_option maxHeartbeats 2000000 in
theorem cycle_err (fl fh kl kh s l : Int) (w : World) (x : Int) (hE : cycErr fl fh kl kh s l = x) (hx : x ≠ 0) :
    Calls Try.prog 21 #[.agg #[.int .i64 fl, .int .i64 fh], .agg #[.int .i64 kl, .int .i64 kh], .int .i64 s, .int .i64 l] w fun e w' =>
      e = .returned (.tuple #[.int .i64 0, .int .i64 0, .int .i64 x]) ∧ Below w.heap.size w w' := by
  cases a1 : spanB fl fh 0 1073741824 with
  | false =>
    obtain rfl : x = 1 := by rw [← hE]; unfold cycErr; rw [a1]; rfl
    clear hE hx
    have A1 := Lib.hid a1; clear a1
    go_enter Try.func21, Try.ntmps21
    go_wp2_with fail
    refine (Calls.grown (isSpan_b _ _ _ _ _ A1.out)).mono ?_
    rintro e w1 ⟨rfl, x, rfl⟩
    go_wp2_with fail
    go_ret3
    exact ⟨rfl, ((((Below.refl _ w).alloc (Nat.le_refl _) _).alloc (by simp) _).gw x)⟩
  | true =>
    have A1 := Lib.hid a1
    cases a2 : spanB kl kh 0 999 with
    | false =>
      obtain rfl : x = 1 := by rw [← hE]; unfold cycErr; rw [a1, a2]; rfl
      clear hE hx a1
      have A2 := Lib.hid a2; clear a2
      go_enter Try.func21, Try.ntmps21
      go_wp2_with fail
      refine (Calls.grown (isSpan_b _ _ _ _ _ A1.out)).mono ?_
      rintro e w1 ⟨rfl, x, rfl⟩
      go_wp2_with fail
      refine (Calls.gw_of (isSpan_b _ _ _ _ _ A2.out)).mono ?_
      rintro e w1 ⟨rfl, y, rfl⟩
      go_wp2_with fail
      go_ret3
      exact ⟨rfl, ((((Below.refl _ w).alloc (Nat.le_refl _) _).alloc (by simp) _).gw y)⟩
    | true =>
      have A2 := Lib.hid a2
      cases a3 : inB s 0 1073741824 with
      | false =>
        obtain rfl : x = 2 := by rw [← hE]; unfold cycErr; rw [a1, a2, a3]; rfl
        clear hE hx a1 a2
        have A3 := Lib.hid a3; clear a3
        go_enter Try.func21, Try.ntmps21
        go_wp2_with fail
        refine (Calls.grown (isSpan_b _ _ _ _ _ A1.out)).mono ?_
        rintro e w1 ⟨rfl, x, rfl⟩
        go_wp2_with fail
        refine (Calls.gw_of (isSpan_b _ _ _ _ _ A2.out)).mono ?_
        rintro e w1 ⟨rfl, y, rfl⟩
        go_wp2_with (go_at_call 50; refine (within_b _ _ _ _ A3.out).mono ?_; rintro e w1 ⟨rfl, rfl⟩)
        go_ret3
        exact ⟨rfl, ((((Below.refl _ w).alloc (Nat.le_refl _) _).alloc (by simp) _).gw y)⟩
      | true =>
        have A3 := Lib.hid a3
        cases a4 : inB l 0 1073741824 with
        | false =>
          obtain rfl : x = 2 := by rw [← hE]; unfold cycErr; rw [a1, a2, a3, a4]; rfl
          clear hE hx a1 a2 a3
          have A4 := Lib.hid a4; clear a4
          go_enter Try.func21, Try.ntmps21
          go_wp2_with fail
          refine (Calls.grown (isSpan_b _ _ _ _ _ A1.out)).mono ?_
          rintro e w1 ⟨rfl, x, rfl⟩
          go_wp2_with fail
          refine (Calls.gw_of (isSpan_b _ _ _ _ _ A2.out)).mono ?_
          rintro e w1 ⟨rfl, y, rfl⟩
          go_wp2_with (first | (go_at_call 50; refine (within_b _ _ _ _ A3.out).mono ?_; rintro e w1 ⟨rfl, rfl⟩; clear A3) | (go_at_call 50; refine (within_b _ _ _ _ A4.out).mono ?_; rintro e w1 ⟨rfl, rfl⟩; clear A4))
          go_ret3
          exact ⟨rfl, ((((Below.refl _ w).alloc (Nat.le_refl _) _).alloc (by simp) _).gw y)⟩
        | true => exact absurd (by rw [← hE]; unfold cycErr; rw [a1, a2, a3, a4]; rfl) hx

/-- run i is where Cycle ends -/
def CycEnd (F K s l : Int) (i : Nat) : Prop := (∀ j, j < i → cycF F K s j ≤ l ∧ cycF F K s j < cycF F K s (j + 1)) ∧ (l < cycF F K s i ∨ cycF F K s (i + 1) ≤ cycF F K s i)

theorem cyc_exists_from (F K s l : Int) : ∀ (m n : Nat), (l + 1 - cycF F K s n).toNat ≤ m → (∀ j, j < n → cycF F K s j ≤ l ∧ cycF F K s j < cycF F K s (j + 1)) → ∃ i, n ≤ i ∧ CycEnd F K s l i
  | 0, n, hm, h => ⟨n, Nat.le_refl _, h, .inl (by omega)⟩
  | m + 1, n, hm, h => by
    by_cases h1 : cycF F K s n ≤ l
    · by_cases h2 : cycF F K s n < cycF F K s (n + 1)
      · obtain ⟨i, hi, he⟩ := cyc_exists_from F K s l m (n + 1) (by omega) (fun j hj => by
          rcases Nat.lt_or_eq_of_le (Nat.lt_succ_iff.1 hj) with h' | h'
          · exact h j h'
          · rw [h']; exact ⟨h1, h2⟩)
        exact ⟨i, by omega, he⟩
      · exact ⟨n, Nat.le_refl _, h, .inr (by omega)⟩
    · exact ⟨n, Nat.le_refl _, h, .inl (by omega)⟩
theorem cyc_exists (F K s l : Int) : ∃ i, CycEnd F K s l i := by
  obtain ⟨i, _, h⟩ := cyc_exists_from F K s l _ 0 (Nat.le_refl _) (fun j hj => by omega)
  exact ⟨i, h⟩

theorem upI_mono {a b c : Int} (hc : 1 ≤ c) (h : a ≤ b) : upI a c ≤ upI b c := by unfold upI; exact Int.ediv_le_ediv (by omega) (by omega)

/-- behind a run that does not rise none rises above it -/
theorem cyc_after {F K s : Int} (hK : 0 ≤ K) {i : Nat} (h : cycF F K s (i + 1) ≤ cycF F K s i) : ∀ j, cycF F K s (i + j) ≤ cycF F K s i
  | 0 => Int.le_refl _
  | j + 1 => by
    have ih := cyc_after hK h j
    have : cycF F K s (i + (j + 1)) ≤ cycF F K s (i + 1) := by
      show upI ((cycF F K s (i + j) + F) * K) 1000 ≤ upI ((cycF F K s i + F) * K) 1000
      exact upI_mono (by omega) (Int.mul_le_mul_of_nonneg_right (by omega) hK)
    omega
theorem cyc_before {F K s l : Int} {i : Nat} (h : ∀ j, j < i → cycF F K s j ≤ l ∧ cycF F K s j < cycF F K s (j + 1)) : ∀ d j, j + d = i → cycF F K s j ≤ cycF F K s i
  | 0, j, e => by rw [show j = i by omega]; exact Int.le_refl _
  | d + 1, j, e => by
    have := cyc_before h d (j + 1) (by omega)
    have := (h j (by omega)).2
    omega

/-- never more than where Cycle ends, if that is not above the limit -/
theorem cyc_max {F K s l : Int} (hK : 0 ≤ K) {i : Nat} (h : CycEnd F K s l i) (hl : cycF F K s i ≤ l) (j : Nat) : cycF F K s j ≤ cycF F K s i := by
  rcases Nat.le_total j i with h1 | h1
  · exact cyc_before h.1 (i - j) j (by omega)
  · obtain ⟨d, rfl⟩ : ∃ d, j = i + d := ⟨j - i, by omega⟩
    rcases h.2 with h2 | h2
    · omega
    · exact cyc_after hK h2 d

/-- what truly returns -/
def retF (fl fh kl kh s : Int) (n : Nat) (Y : Nat → Int) : Nat → Int
  | 0 => s
  | k + 1 => innerI ((retF fl fh kl kh s n Y k + innerI fl fh (Y ((k + 1) % n))) * innerI kl kh (Y (k % n)) / 1000) (((retF fl fh kl kh s n Y k + innerI fl fh (Y ((k + 1) % n))) * innerI kl kh (Y (k % n)) + 999) / 1000) (Y ((k + 2) % n))

theorem ret_step {f g x k F K : Int} (h0 : 0 ≤ f) (hf : f ≤ g) (hx0 : 0 ≤ x) (hx : x ≤ F) (hk0 : 0 ≤ k) (hk : k ≤ K) : 0 ≤ (f + x) * k ∧ (f + x) * k ≤ (g + F) * K := by
  exact ⟨Int.mul_nonneg (by omega) hk0, Int.mul_le_mul (by omega) hk hk0 (by omega)⟩

theorem retF_le {fl fh kl kh s : Int} {n : Nat} {Y : Nat → Int} (h1 : 0 ≤ fl) (h2 : fl ≤ fh) (h3 : 0 ≤ kl) (h4 : kl ≤ kh) (hs : 0 ≤ s) : ∀ k, 0 ≤ retF fl fh kl kh s n Y k ∧ retF fl fh kl kh s n Y k ≤ cycF fh kh s k
  | 0 => ⟨hs, Int.le_refl _⟩
  | k + 1 => by
    have ih := retF_le (n := n) (Y := Y) h1 h2 h3 h4 hs k
    have a := innerI_range (b := Y ((k + 1) % n)) h2
    have b := innerI_range (b := Y (k % n)) h4
    have st := ret_step ih.1 ih.2 (show 0 ≤ innerI fl fh (Y ((k + 1) % n)) by omega) a.2 (show 0 ≤ innerI kl kh (Y (k % n)) by omega) b.2
    unfold retF
    show _ ∧ _ ≤ upI ((cycF fh kh s k + fh) * kh) 1000
    unfold upI
    generalize (retF fl fh kl kh s n Y k + innerI fl fh (Y ((k + 1) % n))) * innerI kl kh (Y (k % n)) = p at *
    have c := innerI_range (lo := p / 1000) (hi := (p + 999) / 1000) (b := Y ((k + 2) % n)) (by omega)
    omega

set_option maxRecDepth 100000 in
set_option maxHeartbeats 4000000 in
theorem forever_err (fl fh kl kh s l m : Int) (a : Option Addr) (n c : Nat) (w : World) (x : Int) (hE : cycErr fl fh kl kh s l = x) (hx : x ≠ 0) :
    Calls Try.prog 4 #[.agg #[.int .i64 fl, .int .i64 fh], .agg #[.int .i64 kl, .int .i64 kh], .int .i64 s, .int .i64 l, .int .i64 m, .slice a n c] w (True1 w) := by
  have hW := cycle_err fl fh kl kh s l (((w.alloc (.cells #[.int .i64 fl, .int .i64 fh] 27)).alloc (.cells #[.int .i64 kl, .int .i64 kh] 27))) x hE hx
  have hc : x = 1 ∨ x = 2 := by
    unfold cycErr at hE
    split at hE
    · split at hE
      · exact absurd hE.symm hx
      · exact .inr hE.symm
    · exact .inl hE.symm
  have HW := Lib.hid (Calls.grown hW); clear hW hE hx
  rcases hc with rfl | rfl
  all_goals
    go_enter Try.func4, Try.ntmps4
    go_wp2_with fail
    refine HW.out.mono ?_
    clear HW
    rintro e w1 ⟨rfl, y, rfl⟩
    go_wp2_with fail
    refine (alive_any _).mono ?_
    rintro e w1 ⟨rfl, hb⟩
    have HB := Lib.hid (thru hb ((((Below.refl _ w).alloc (Nat.le_refl _) _).alloc (by simp) _).gw y)); clear hb
    go_wp2_with fail
    go_ret
    exact ⟨rfl, HB.out⟩
end Go.Proofs.Ytnmldophadanbaa

namespace Go.Proofs.Ytnmldophadanbaa
open Go.RowKit

attribute [local go_sem] gw_cell gw_frozen gw_size
attribute [local go_sem ↓] run_maxZ

set_option maxRecDepth 100000 in
set_option maxHeartbeats 2000000 in
theorem rcycle_err (fl fh kl kh s l : Int) (w : World) (x : Int) (hE : cycErr fl fh kl kh s l = x) (hx : x ≠ 0) :
    Calls Try.prog 37 #[.agg #[.int .i64 fl, .int .i64 fh], .agg #[.int .i64 kl, .int .i64 kh], .int .i64 s, .int .i64 l] w fun e w' =>
      e = .returned (.tuple #[.int .i64 0, .int .i64 0, .int .i64 x]) ∧ Below w.heap.size w w' := by
  cases a1 : spanB fl fh 0 1073741824 with
  | false =>
    obtain rfl : x = 1 := by rw [← hE]; unfold cycErr; rw [a1]; rfl
    clear hE hx
    have A1 := Lib.hid a1; clear a1
    go_enter Try.func37, Try.ntmps37
    go_wp2_with fail
    refine (Calls.grown (rwithin_b _ _ _ _ _ A1.out)).mono ?_
    rintro e w1 ⟨rfl, x, rfl⟩
    go_wp2_with fail
    go_ret3
    exact ⟨rfl, ((((Below.refl _ w).alloc (Nat.le_refl _) _).alloc (by simp) _).gw x)⟩
  | true =>
    have A1 := Lib.hid a1
    cases a2 : spanB kl kh 0 999 with
    | false =>
      obtain rfl : x = 1 := by rw [← hE]; unfold cycErr; rw [a1, a2]; rfl
      clear hE hx a1
      have A2 := Lib.hid a2; clear a2
      go_enter Try.func37, Try.ntmps37
      go_wp2_with fail
      refine (Calls.grown (rwithin_b _ _ _ _ _ A1.out)).mono ?_
      rintro e w1 ⟨rfl, x, rfl⟩
      go_wp2_with fail
      refine (Calls.gw_of (rwithin_b _ _ _ _ _ A2.out)).mono ?_
      rintro e w1 ⟨rfl, y, rfl⟩
      go_wp2_with fail
      go_ret3
      exact ⟨rfl, ((((Below.refl _ w).alloc (Nat.le_refl _) _).alloc (by simp) _).gw y)⟩
    | true =>
      have A2 := Lib.hid a2
      cases a3 : inB s 0 1073741824 with
      | false =>
        obtain rfl : x = 2 := by rw [← hE]; unfold cycErr; rw [a1, a2, a3]; rfl
        clear hE hx a1 a2
        have A3 := Lib.hid a3; clear a3
        go_enter Try.func37, Try.ntmps37
        go_wp2_with fail
        refine (Calls.grown (rwithin_b _ _ _ _ _ A1.out)).mono ?_
        rintro e w1 ⟨rfl, x, rfl⟩
        go_wp2_with fail
        refine (Calls.gw_of (rwithin_b _ _ _ _ _ A2.out)).mono ?_
        rintro e w1 ⟨rfl, y, rfl⟩
        go_wp2_with (go_at_call 47; refine (rin_b _ _ _ _ A3.out).mono ?_; rintro e w1 ⟨rfl, rfl⟩)
        go_ret3
        exact ⟨rfl, ((((Below.refl _ w).alloc (Nat.le_refl _) _).alloc (by simp) _).gw y)⟩
      | true =>
        have A3 := Lib.hid a3
        cases a4 : inB l 0 1073741824 with
        | false =>
          obtain rfl : x = 2 := by rw [← hE]; unfold cycErr; rw [a1, a2, a3, a4]; rfl
          clear hE hx a1 a2 a3
          have A4 := Lib.hid a4; clear a4
          go_enter Try.func37, Try.ntmps37
          go_wp2_with fail
          refine (Calls.grown (rwithin_b _ _ _ _ _ A1.out)).mono ?_
          rintro e w1 ⟨rfl, x, rfl⟩
          go_wp2_with fail
          refine (Calls.gw_of (rwithin_b _ _ _ _ _ A2.out)).mono ?_
          rintro e w1 ⟨rfl, y, rfl⟩
          go_wp2_with (first | (go_at_call 47; refine (rin_b _ _ _ _ A3.out).mono ?_; rintro e w1 ⟨rfl, rfl⟩; clear A3) | (go_at_call 47; refine (rin_b _ _ _ _ A4.out).mono ?_; rintro e w1 ⟨rfl, rfl⟩; clear A4))
          go_ret3
          exact ⟨rfl, ((((Below.refl _ w).alloc (Nat.le_refl _) _).alloc (by simp) _).gw y)⟩
        | true => exact absurd (by rw [← hE]; unfold cycErr; rw [a1, a2, a3, a4]; rfl) hx


theorem cyc_dec {F K s : Int} (hK : 0 ≤ K) {i : Nat} (h : cycF F K s (i + 1) ≤ cycF F K s i) : ∀ d, cycF F K s (i + d + 1) ≤ cycF F K s (i + d)
  | 0 => h
  | d + 1 => by
    have ih := cyc_dec hK h d
    show upI ((cycF F K s (i + d + 1) + F) * K) 1000 ≤ upI ((cycF F K s (i + d) + F) * K) 1000
    exact upI_mono (by omega) (Int.mul_le_mul_of_nonneg_right (by omega) hK)
theorem cyc_nonneg {F K s : Int} (h0 : 0 ≤ s) (hF : 0 ≤ F) (hK : 0 ≤ K) : ∀ j, 0 ≤ cycF F K s j
  | 0 => h0
  | j + 1 => upI_nonneg (Int.mul_nonneg (by have := cyc_nonneg h0 hF hK j; omega) hK) (by omega)
/-- the greatest one up to the last run -/
def mostAt (F K s : Int) (i j : Nat) : Int := cycF F K s (min (j - 1) i)
theorem cyc_down {F K s : Int} {i : Nat} (h : ∀ d, cycF F K s (i + d + 1) ≤ cycF F K s (i + d)) : ∀ d, cycF F K s (i + d) ≤ cycF F K s i
  | 0 => Int.le_refl _
  | d + 1 => Int.le_trans (h d) (cyc_down h d)
theorem most_next {F K s l : Int} {i : Nat} (_ : True) (g : ∀ j, j < i → cycF F K s j ≤ l ∧ cycF F K s j < cycF F K s (j + 1)) (h : ∀ d, cycF F K s (i + d + 1) ≤ cycF F K s (i + d)) (j : Nat) : maxZ (mostAt F K s i j) (cycF F K s j) = mostAt F K s i (j + 1) := by
  rw [maxZ_eq]
  unfold mostAt
  rw [Nat.add_sub_cancel]
  rcases Nat.lt_or_ge i j with hj | hj
  · rw [Nat.min_eq_right (by omega), Nat.min_eq_right (by omega)]
    have := cyc_down h (j - i)
    rw [show i + (j - i) = j by omega] at this
    omega
  · rw [Nat.min_eq_left (by omega), Nat.min_eq_left hj]
    by_cases h0 : j = 0
    · subst h0; simp
    · have := (g (j - 1) (by omega)).2
      rw [show j - 1 + 1 = j by omega] at this
      omega

set_option maxRecDepth 100000 in
set_option maxHeartbeats 4000000 in
theorem rcycle_over (fl fh kl kh s l : Int) (w : World) (hE : cycErr fl fh kl kh s l = 0) (i : Nat) (hi : CycEnd fh kh s l i) (hl : l < cycF fh kh s i) :
    Calls Try.prog 37 #[.agg #[.int .i64 fl, .int .i64 fh], .agg #[.int .i64 kl, .int .i64 kh], .int .i64 s, .int .i64 l] w fun e w' =>
      e = .returned (.tuple #[.int .i64 (cycF fh kh s i), .int .i64 (i), .int .i64 0]) ∧ Below w.heap.size w w' := by
  obtain ⟨a1, a2, a3, a4⟩ := cyc_valid hE
  have b1 := spanB_t.1 a1
  have b2 := spanB_t.1 a2
  have b3 := inB_t.1 a3
  have b4 := inB_t.1 a4
  have A1 := Lib.hid a1; clear a1
  have A2 := Lib.hid a2; clear a2
  have A3 := Lib.hid a3; clear a3
  have A4 := Lib.hid a4; clear a4
  obtain ⟨g1, g2⟩ := hi
  have BD := Lib.hid (fun (j : Nat) (hj : j ≤ i) => cyc_bound (l := l) b3.1 b3.2 b4.2 (by omega : 0 ≤ fh) b1.2.2 (by omega : 0 ≤ kh) b2.2.2 j (fun t ht => g1 t (by omega)))
  have GO := Lib.hid g1; clear g1
  go_enter Try.func37, Try.ntmps37
  go_wp2_with fail
  refine (Calls.grown (rwithin_b _ _ _ _ _ A1.out)).mono ?_
  rintro e w1 ⟨rfl, x, rfl⟩
  go_wp2_with fail
  refine (Calls.gw_of (rwithin_b _ _ _ _ _ A2.out)).mono ?_
  rintro e w1 ⟨rfl, y, rfl⟩
  go_wp2_with fail
  refine (rin_b _ _ _ _ A3.out).mono ?_
  rintro e w1 ⟨rfl, rfl⟩
  go_wp2_with fail
  refine (rin_b _ _ _ _ A4.out).mono ?_
  rintro e w1 ⟨rfl, rfl⟩
  go_wp2_with fail
  clear g2
  go_loop [11, 12, 13] (fun f m r => ∃ j : Nat, j ≤ i ∧ r = .int .i64 j ∧ f = .int .i64 (cycF fh kh s j) ∧ ∃ M : Int, m = .int .i64 M ∧ 0 ≤ M ∧ M ≤ 2147483648) (fun _ _ r => i - (intOf r).toNat)
  case atStart => exact ⟨0, Nat.zero_le _, rfl, rfl, s, rfl, by omega, by omega⟩
  case round =>
    obtain ⟨j, hj, rfl, rfl, M, rfl, m1, m2⟩ := hrel
    have bd := BD.out j hj
    have hji : j ≤ 2147483648 := by
      have : ∀ t : Nat, t ≤ j → (t : Int) ≤ cycF fh kh s t := fun t => by
        induction t with
        | zero => intro _; exact b3.1
        | succ t ih => intro ht; have := ih (by omega); have := (GO.out t (by omega)).2; omega
      have := this j (Nat.le_refl _)
      omega
    have mz : 0 ≤ maxZ M (cycF fh kh s j) ∧ maxZ M (cycF fh kh s j) ≤ 2147483648 := by rw [maxZ_eq]; omega
    by_cases hlt : j < i
    · obtain ⟨t1, t2⟩ := GO.out j hlt
      have nx := cycF_next bd.1 (by omega : cycF fh kh s j ≤ 1073741824) (by omega : 0 ≤ fh) b1.2.2 (by omega : 0 ≤ kh) b2.2.2
      have HU := Lib.hid (show cycF fh kh s (j + 1) = upI ((cycF fh kh s j + fh) * kh) 1000 from rfl)
      rw [HU.out] at t2
      have ne : (upI ((cycF fh kh s j + fh) * kh) 1000 == cycF fh kh s j) = false := by simp; omega
      go_wp2_with (go_at_call 63; refine (rup_any _ _ _ (by omega) (by omega) (by omega) (by omega)).mono ?_; rintro e w1 ⟨rfl, rfl⟩)
      go_round
      case rel => exact ⟨j + 1, hlt, by go_num, by rw [HU.out], _, rfl, mz.1, mz.2⟩
      case measure => simp [intOf]; omega
    · obtain rfl : j = i := by omega
      go_wp2_with fail
      go_ret3
      exact ⟨rfl, (((Below.refl _ w).alloc (Nat.le_refl _) _).alloc (by simp) _).gw y⟩

set_option maxRecDepth 100000 in
set_option maxHeartbeats 4000000 in
theorem rcycle_stay (fl fh kl kh s l : Int) (w : World) (hE : cycErr fl fh kl kh s l = 0) (i : Nat) (hi : CycEnd fh kh s l i) (hl : cycF fh kh s i ≤ l) :
    Calls Try.prog 37 #[.agg #[.int .i64 fl, .int .i64 fh], .agg #[.int .i64 kl, .int .i64 kh], .int .i64 s, .int .i64 l] w fun e w' =>
      e = .returned (.tuple #[.int .i64 (cycF fh kh s i), .int .i64 (-1), .int .i64 0]) ∧ Below w.heap.size w w' := by
  obtain ⟨a1, a2, a3, a4⟩ := cyc_valid hE
  have b1 := spanB_t.1 a1
  have b2 := spanB_t.1 a2
  have b3 := inB_t.1 a3
  have b4 := inB_t.1 a4
  have A1 := Lib.hid a1; clear a1
  have A2 := Lib.hid a2; clear a2
  have A3 := Lib.hid a3; clear a3
  have A4 := Lib.hid a4; clear a4
  obtain ⟨g1, g2⟩ := hi
  have BD := Lib.hid (fun (j : Nat) (hj : j ≤ i) => cyc_bound (l := l) b3.1 b3.2 b4.2 (by omega : 0 ≤ fh) b1.2.2 (by omega : 0 ≤ kh) b2.2.2 j (fun t ht => g1 t (by omega)))
  have GO := Lib.hid g1; clear g1
  have g3 : cycF fh kh s (i + 1) ≤ cycF fh kh s i := by omega
  have MX := Lib.hid (fun j => cyc_max (l := l) (by omega : 0 ≤ kh) ⟨GO.out, g2⟩ hl j)
  have DE := Lib.hid (cyc_dec (by omega : 0 ≤ kh) g3)
  have NN := Lib.hid (cyc_nonneg (F := fh) (K := kh) (s := s) (by omega) (by omega) (by omega))
  clear g2 g3
  go_enter Try.func37, Try.ntmps37
  go_wp2_with fail
  refine (Calls.grown (rwithin_b _ _ _ _ _ A1.out)).mono ?_
  rintro e w1 ⟨rfl, x, rfl⟩
  go_wp2_with fail
  refine (Calls.gw_of (rwithin_b _ _ _ _ _ A2.out)).mono ?_
  rintro e w1 ⟨rfl, y, rfl⟩
  go_wp2_with fail
  refine (rin_b _ _ _ _ A3.out).mono ?_
  rintro e w1 ⟨rfl, rfl⟩
  go_wp2_with fail
  refine (rin_b _ _ _ _ A4.out).mono ?_
  rintro e w1 ⟨rfl, rfl⟩
  go_wp2_with fail
  go_loop [11, 12, 13] (fun f m r => ∃ j : Nat, (j ≤ i ∨ (j : Int) + cycF fh kh s j ≤ i + cycF fh kh s i) ∧ r = .int .i64 j ∧ f = .int .i64 (cycF fh kh s j) ∧ m = .int .i64 (mostAt fh kh s i j)) (fun f _ r => (i - (intOf r).toNat) * 4294967296 + (intOf f).toNat)
  case atStart => exact ⟨0, .inl (Nat.zero_le _), rfl, rfl, by unfold mostAt; simp; rfl⟩
  case round =>
    obtain ⟨j, hj, rfl, rfl, rfl⟩ := hrel
    have bi := BD.out i (Nat.le_refl _)
    have mj := MX.out j
    have nj := NN.out j
    have hii : i ≤ 2147483648 := by
      have : ∀ t : Nat, t ≤ i → (t : Int) ≤ cycF fh kh s t := fun t => by
        induction t with
        | zero => intro _; exact b3.1
        | succ t ih => intro ht; have := ih (by omega); have := (GO.out t (by omega)).2; omega
      have := this i (Nat.le_refl _)
      omega
    have hji : (j : Int) ≤ 8589934592 := by omega
    have EM := Lib.hid (show maxZ (mostAt fh kh s i j) (cycF fh kh s j) = mostAt fh kh s i (j + 1) from most_next (l := l) trivial GO.out DE.out j)
    have nx := cycF_next nj (by omega : cycF fh kh s j ≤ 1073741824) (by omega : 0 ≤ fh) b1.2.2 (by omega : 0 ≤ kh) b2.2.2
    have HU := Lib.hid (show cycF fh kh s (j + 1) = upI ((cycF fh kh s j + fh) * kh) 1000 from rfl)
    have nj1 := NN.out (j + 1)
    by_cases heq : cycF fh kh s (j + 1) = cycF fh kh s j
    · have hij : i ≤ j := Nat.not_lt.1 fun h => by have := (GO.out j h).2; omega
      have ET := Lib.hid (show mostAt fh kh s i (j + 1) = cycF fh kh s i by unfold mostAt; rw [Nat.add_sub_cancel, Nat.min_eq_right hij])
      rw [HU.out] at heq
      have ne : (upI ((cycF fh kh s j + fh) * kh) 1000 == cycF fh kh s j) = true := by simpa using heq
      clear heq nj1
      go_wp2_with (go_at_call 63; refine (rup_any _ _ _ (by omega) (by omega) (by omega) (by omega)).mono ?_; rintro e w1 ⟨rfl, rfl⟩)
      rw [EM.out, ET.out]
      go_ret3
      exact ⟨rfl, (((Below.refl _ w).alloc (Nat.le_refl _) _).alloc (by simp) _).gw y⟩
    · have st : j < i ∨ (i ≤ j ∧ cycF fh kh s (j + 1) < cycF fh kh s j) := by
        rcases Nat.lt_or_ge j i with h | h
        · exact .inl h
        · have := DE.out (j - i)
          rw [show i + (j - i) = j by omega] at this
          exact .inr ⟨h, by omega⟩
      have m2 := MX.out (j + 1)
      have j2 : (j + 1 ≤ i ∨ ((j + 1 : Nat) : Int) + cycF fh kh s (j + 1) ≤ i + cycF fh kh s i) := by
        rcases st with h | ⟨h1, h2⟩
        · exact .inl h
        · rcases hj with h3 | h3
          · obtain rfl : i = j := by omega
            exact .inr (by omega)
          · exact .inr (by omega)
      have J2 := Lib.hid j2
      have ms : (i - (j + 1)) * 4294967296 + (cycF fh kh s (j + 1)).toNat < (i - j) * 4294967296 + (cycF fh kh s j).toNat := by
        rcases st with h | ⟨h1, h2⟩
        · have e : i - j = (i - (j + 1)) + 1 := by omega
          rw [e, Nat.add_mul]
          omega
        · rw [show i - (j + 1) = 0 by omega, show i - j = 0 by omega]
          omega
      rw [HU.out] at heq ms
      have ne : (upI ((cycF fh kh s j + fh) * kh) 1000 == cycF fh kh s j) = false := by simpa using heq
      have MS := Lib.hid ms
      clear heq st ms m2 j2 nj1
      go_wp2_with (go_at_call 63; refine (rup_any _ _ _ (by omega) (by omega) (by omega) (by omega)).mono ?_; rintro e w1 ⟨rfl, rfl⟩)
      rw [EM.out]
      go_round
      case rel => exact ⟨j + 1, J2.out, by go_num, by rw [HU.out], rfl⟩
      case measure => have := MS.out; simp [intOf]; omega

theorem times_any (t w l : Int) (W : World) (h0 : 0 ≤ l) (h1 : l ≤ t) (h2 : t ≤ 1073741824) (h3 : 0 ≤ w) (h4 : w ≤ 1073741824) :
    Calls Try.prog 64 #[.int .i64 t, .int .i64 w, .int .i64 l] W fun e w' => e = .returned (.int .i64 (runsI t w l)) ∧ W = w' := by
  by_cases hw : w = 0
  · have HR := Lib.hid (show runsI t w l = -1 by unfold runsI; rw [if_pos hw])
    have e : (w == 0) = true := by simpa using hw
    clear hw
    rw [HR.out]
    go_enter Try.func64, Try.ntmps64
    go_wp2
    go_ret
    exact ⟨rfl, rfl⟩
  · have HR := Lib.hid (show runsI t w l = (t - l) / w by unfold runsI; rw [if_neg hw])
    have e : (w == 0) = false := by simpa using hw
    rw [HR.out]
    go_enter Try.func64, Try.ntmps64
    go_wp2
    go_ret
    exact ⟨rfl, rfl⟩

set_option maxRecDepth 100000 in
set_option maxHeartbeats 2000000 in
theorem rwear_any (tl th wl wh l : Int) (w : World) (x : Int) (hE : wearErr tl th wl wh l = x) :
    Calls Try.prog 38 #[.agg #[.int .i64 tl, .int .i64 th], .agg #[.int .i64 wl, .int .i64 wh], .int .i64 l] w fun e w' =>
      e = .returned (.tuple #[.int .i64 (if x = 0 then runsI tl wh l else 0), .int .i64 (if x = 0 then runsI th wl l else 0), .int .i64 x]) ∧ Below w.heap.size w w' := by
  cases a1 : spanB tl th 0 1073741824 with
  | false =>
    obtain rfl : x = 1 := by rw [← hE]; unfold wearErr; rw [a1]; rfl
    clear hE
    have A1 := Lib.hid a1; clear a1
    go_enter Try.func38, Try.ntmps38
    go_wp2_with fail
    refine (Calls.grown (rwithin_b _ _ _ _ _ A1.out)).mono ?_
    rintro e w1 ⟨rfl, x, rfl⟩
    go_wp2_with fail
    go_ret3
    exact ⟨rfl, ((((Below.refl _ w).alloc (Nat.le_refl _) _).alloc (by simp) _).gw x)⟩
  | true =>
    cases a2 : spanB wl wh 0 1073741824 with
    | false =>
      obtain rfl : x = 1 := by rw [← hE]; unfold wearErr; rw [a1, a2]; rfl
      clear hE
      have A1 := Lib.hid a1; clear a1
      have A2 := Lib.hid a2; clear a2
      go_enter Try.func38, Try.ntmps38
      go_wp2_with fail
      refine (Calls.grown (rwithin_b _ _ _ _ _ A1.out)).mono ?_
      rintro e w1 ⟨rfl, x, rfl⟩
      go_wp2_with fail
      refine (Calls.gw_of (rwithin_b _ _ _ _ _ A2.out)).mono ?_
      rintro e w1 ⟨rfl, y, rfl⟩
      go_wp2_with fail
      go_ret3
      exact ⟨rfl, ((((Below.refl _ w).alloc (Nat.le_refl _) _).alloc (by simp) _).gw y)⟩
    | true =>
      have b1 := spanB_t.1 a1
      have b2 := spanB_t.1 a2
      have A1 := Lib.hid a1
      have A2 := Lib.hid a2
      cases a3 : inB l 0 1073741824 with
      | false =>
        obtain rfl : x = 2 := by rw [← hE]; unfold wearErr; rw [a1, a2, a3]; rfl
        have A3 := Lib.hid a3; clear a1 a2 a3 hE
        go_enter Try.func38, Try.ntmps38
        go_wp2_with fail
        refine (Calls.grown (rwithin_b _ _ _ _ _ A1.out)).mono ?_
        rintro e w1 ⟨rfl, x, rfl⟩
        go_wp2_with fail
        refine (Calls.gw_of (rwithin_b _ _ _ _ _ A2.out)).mono ?_
        rintro e w1 ⟨rfl, y, rfl⟩
        go_wp2_with fail
        refine (rin_b _ _ _ _ A3.out).mono ?_
        rintro e w1 ⟨rfl, rfl⟩
        go_wp2_with fail
        go_ret3
        exact ⟨rfl, ((((Below.refl _ w).alloc (Nat.le_refl _) _).alloc (by simp) _).gw y)⟩
      | true =>
        have b3 := inB_t.1 a3
        by_cases hl : tl < l
        · obtain rfl : x = 12 := by rw [← hE]; unfold wearErr; rw [a1, a2, a3, if_pos hl]; rfl
          have A3 := Lib.hid a3; clear a1 a2 a3 hE
          go_enter Try.func38, Try.ntmps38
          go_wp2_with fail
          refine (Calls.grown (rwithin_b _ _ _ _ _ A1.out)).mono ?_
          rintro e w1 ⟨rfl, x, rfl⟩
          go_wp2_with fail
          refine (Calls.gw_of (rwithin_b _ _ _ _ _ A2.out)).mono ?_
          rintro e w1 ⟨rfl, y, rfl⟩
          go_wp2_with fail
          refine (rin_b _ _ _ _ A3.out).mono ?_
          rintro e w1 ⟨rfl, rfl⟩
          go_wp2_with fail
          go_ret3
          exact ⟨rfl, ((((Below.refl _ w).alloc (Nat.le_refl _) _).alloc (by simp) _).gw y)⟩
        · obtain rfl : x = 0 := by rw [← hE]; unfold wearErr; rw [a1, a2, a3, if_neg hl]; rfl
          have A3 := Lib.hid a3; clear a1 a2 a3 hE
          go_enter Try.func38, Try.ntmps38
          go_wp2_with fail
          refine (Calls.grown (rwithin_b _ _ _ _ _ A1.out)).mono ?_
          rintro e w1 ⟨rfl, x, rfl⟩
          go_wp2_with fail
          refine (Calls.gw_of (rwithin_b _ _ _ _ _ A2.out)).mono ?_
          rintro e w1 ⟨rfl, y, rfl⟩
          go_wp2_with fail
          refine (rin_b _ _ _ _ A3.out).mono ?_
          rintro e w1 ⟨rfl, rfl⟩
          go_wp2_with fail
          refine wp_region_gw2 (by kernel_rfl) (by kernel_rfl) ?_
          repeat (go_big_quiet_step ((go_at_call 64; exact Calls.gw_of_same (times_any _ _ _ _ (by omega) (by omega) (by omega) (by omega) (by omega)))))
          refine wpQuiet_nil ?_
          rintro _ ⟨z, rfl⟩
          go_wp2_with fail
          go_ret3
          exact ⟨rfl, ((((Below.refl _ w).alloc (Nat.le_refl _) _).alloc (by simp) _).gw z)⟩

end Go.Proofs.Ytnmldophadanbaa

namespace Go.Proofs.Ytnmldophadanbaa
open Go.RowKit

attribute [local go_sem] gw_cell gw_frozen gw_size field_lo field_hi

/-- the first of so many that reaches t, or -1 -/
def cntJ (q : Nat → Int) (t : Int) (j : Nat) : Int := if firstGe q t j < j then firstGe q t j else -1
theorem cntJ_pos {q : Nat → Int} {t : Int} {j : Nat} (h : ¬ cntJ q t j < 0) : cntJ q t (j + 1) = cntJ q t j := by
  unfold cntJ at h ⊢
  split at h
  · rename_i h1
    have e : firstGe q t (j + 1) = firstGe q t j := by
      conv => lhs; unfold firstGe
      rw [if_neg (by omega)]
    rw [e, if_pos (by omega), if_pos h1]
  · omega
theorem cntJ_lt {q : Nat → Int} {t : Int} {j : Nat} (h : q j < t) : cntJ q t (j + 1) = cntJ q t j := by
  by_cases hp : cntJ q t j < 0
  · unfold cntJ at hp ⊢
    split at hp
    · omega
    · rename_i h1
      have := firstGe_le q t j
      have e : firstGe q t (j + 1) = j + 1 := by
        conv => lhs; unfold firstGe
        rw [if_pos ⟨by omega, h⟩]
      rw [e, if_neg (by omega), if_neg h1]
  · exact cntJ_pos hp
theorem cntJ_ge {q : Nat → Int} {t : Int} {j : Nat} (h : t ≤ q j) (hp : cntJ q t j < 0) : cntJ q t (j + 1) = j := by
  unfold cntJ at hp ⊢
  split at hp
  · omega
  · have := firstGe_le q t j
    have e : firstGe q t (j + 1) = j := by
      conv => lhs; unfold firstGe
      rw [if_neg (by omega)]
      omega
    rw [e, if_pos (by omega)]
theorem cntJ_zero (q : Nat → Int) (t : Int) : cntJ q t 0 = -1 := rfl
theorem cntJ_end (q : Nat → Int) (t : Int) : cntJ q t 101 = countI q t := rfl
/-- how the number turns in a round -/
theorem cntJ_cases (q : Nat → Int) (t : Int) (j : Nat) :
    (q j < t ∧ cntJ q t (j + 1) = cntJ q t j) ∨ (t ≤ q j ∧ ¬ cntJ q t j < 0 ∧ cntJ q t (j + 1) = cntJ q t j) ∨ (t ≤ q j ∧ cntJ q t j < 0 ∧ cntJ q t (j + 1) = j) := by
  by_cases h : q j < t
  · exact .inl ⟨h, cntJ_lt h⟩
  · by_cases hp : cntJ q t j < 0
    · exact .inr (.inr ⟨by omega, hp, cntJ_ge (by omega) hp⟩)
    · exact .inr (.inl ⟨by omega, hp, cntJ_pos hp⟩)

theorem rcurve_b {c : Bool} (aL aV : Option Addr) (n m cL cV : Nat) (L A B : Nat → Int) (w : World) (hn : n ≤ 1000000000000) (hm : m ≤ 1000000000000) (hL : IntsAt w aL n L) (hV : SpansAt w aV m A B) (h : curveB n m L A B = c) :
    Calls Try.prog 22 #[.agg #[.slice aL n cL, .slice aV m cV]] w fun e w' => e = .returned (.bool c) ∧ Below w.heap.size w w' := h ▸ rcurve_any aL aV n m cL cV L A B w hn hm hL hV

set_option maxRecDepth 100000 in
set_option maxHeartbeats 1000000 in
theorem rplates_err (aL aV : Option Addr) (n m cL cV : Nat) (L A B : Nat → Int) (s t : Int) (w : World) (hn : n ≤ 1000000000000) (hm : m ≤ 1000000000000) (hL : IntsAt w aL n L) (hV : SpansAt w aV m A B) (x : Int) (hE : platesErr n m L A B s t = x) (hx : x ≠ 0) :
    Calls Try.prog 39 #[.agg #[.slice aL n cL, .slice aV m cV], .int .i64 s, .int .i64 t] w fun e w' => e = .returned (.tuple #[.int .i64 0, .int .i64 0, .int .i64 x]) ∧ Below w.heap.size w w' := by
  obtain ⟨W2, hW2⟩ : ∃ W2, w.alloc (.cells #[.slice aL n cL, .slice aV m cV] 25) = W2 := ⟨_, rfl⟩
  have low : Below w.heap.size w W2 := by rw [← hW2]; exact below_alloc _ _
  have c0 : W2.cell? ⟨w.heap.size, 0, none⟩ = some (.slice aL n cL) := by rw [← hW2]; simp
  have c1 : W2.cell? ⟨w.heap.size, 1, none⟩ = some (.slice aV m cV) := by rw [← hW2]; simp
  have s0 : w.heap.size < W2.heap.size := by rw [← hW2]; simp
  have HL := Lib.hid (hL.below low); clear hL
  have HV := Lib.hid (hV.below low); clear hV
  have HW2 := Lib.hid hW2; clear hW2
  have LOW := Lib.hid low; clear low
  cases hc : curveB n m L A B with
  | false =>
    obtain rfl : x = 1 := by rw [← hE]; unfold platesErr; rw [hc]; rfl
    clear hE hx
    have H1 := Lib.hid hc; clear hc
    go_enter Try.func39, Try.ntmps39
    go_wp2_with fail
    rw [HW2.out]
    refine (Calls.grown (rcurve_b aL aV n m cL cV L A B W2 hn hm HL.out HV.out H1.out)).mono ?_
    rintro e w1 ⟨rfl, y, rfl⟩
    go_wp2_with fail
    go_ret3
    exact ⟨rfl, LOW.out.gw y⟩
  | true =>
    have H1 := Lib.hid hc
    cases h2 : inB s 0 10000 with
    | false =>
      obtain rfl : x = 2 := by rw [← hE]; unfold platesErr; rw [hc, h2]; rfl
      clear hE hx hc
      have H2 := Lib.hid h2; clear h2
      go_enter Try.func39, Try.ntmps39
      go_wp2_with fail
      rw [HW2.out]
      refine (Calls.grown (rcurve_b aL aV n m cL cV L A B W2 hn hm HL.out HV.out H1.out)).mono ?_
      rintro e w1 ⟨rfl, y, rfl⟩
      go_wp2_with fail
      refine (rin_b _ _ _ _ H2.out).mono ?_
      rintro e w1 ⟨rfl, rfl⟩
      go_wp2_with fail
      go_ret3
      exact ⟨rfl, LOW.out.gw y⟩
    | true =>
      have H2 := Lib.hid h2
      cases h3 : inB t 0 10000 with
      | false =>
        obtain rfl : x = 2 := by rw [← hE]; unfold platesErr; rw [hc, h2, h3]; rfl
        clear hE hx hc h2
        have H3 := Lib.hid h3; clear h3
        go_enter Try.func39, Try.ntmps39
        go_wp2_with fail
        rw [HW2.out]
        refine (Calls.grown (rcurve_b aL aV n m cL cV L A B W2 hn hm HL.out HV.out H1.out)).mono ?_
        rintro e w1 ⟨rfl, y, rfl⟩
        go_wp2_with fail
        refine (rin_b _ _ _ _ H2.out).mono ?_
        rintro e w1 ⟨rfl, rfl⟩
        go_wp2_with fail
        refine (rin_b _ _ _ _ H3.out).mono ?_
        rintro e w1 ⟨rfl, rfl⟩
        go_wp2_with fail
        go_ret3
        exact ⟨rfl, LOW.out.gw y⟩
      | true => exact absurd (by rw [← hE]; unfold platesErr; rw [hc, h2, h3]; rfl) hx


set_option maxRecDepth 100000 in
set_option maxHeartbeats 4000000 in
theorem rplates_ok (aL aV : Option Addr) (n m cL cV : Nat) (L A B : Nat → Int) (s t : Int) (w : World) (hn : n ≤ 1000000000000) (hm : m ≤ 1000000000000) (hL : IntsAt w aL n L) (hV : SpansAt w aV m A B) (hE : platesErr n m L A B s t = 0)
    (ch cl : Int) (hh : CountIs (seqI (fun x => vapHi L B n x) s) t ch) (hl : CountIs (seqI (fun x => vapLo L A n x) s) t cl) :
    Calls Try.prog 39 #[.agg #[.slice aL n cL, .slice aV m cV], .int .i64 s, .int .i64 t] w fun e w' => PlatesEnd ch cl e ∧ Below w.heap.size w w' := by
  obtain ⟨e1, e2, e3⟩ := plates_valid hE
  obtain ⟨em, g⟩ := good_of e1
  subst em
  have r2 := inB_t.1 e2
  have r3 := inB_t.1 e3
  obtain ⟨W2, hW2⟩ : ∃ W2, w.alloc (.cells #[.slice aL m cL, .slice aV m cV] 25) = W2 := ⟨_, rfl⟩
  have low : Below w.heap.size w W2 := by rw [← hW2]; exact below_alloc _ _
  have c0 : W2.cell? ⟨w.heap.size, 0, none⟩ = some (.slice aL m cL) := by rw [← hW2]; simp
  have c1 : W2.cell? ⟨w.heap.size, 1, none⟩ = some (.slice aV m cV) := by rw [← hW2]; simp
  have s0 : w.heap.size < W2.heap.size := by rw [← hW2]; simp
  have HL := Lib.hid (hL.below low); clear hL
  have HV := Lib.hid (hV.below low); clear hV
  have HW2 := Lib.hid hW2; clear hW2
  have LOW := Lib.hid low; clear low
  have H1 := Lib.hid e1; clear e1
  have H2 := Lib.hid e2; clear e2
  have H3 := Lib.hid e3; clear e3
  have G := Lib.hid g; clear g
  obtain ⟨qh, hqh⟩ : ∃ qh, qh = seqI (fun x => vapHi L B m x) s := ⟨_, rfl⟩
  obtain ⟨ql, hql⟩ : ∃ ql, ql = seqI (fun x => vapLo L A m x) s := ⟨_, rfl⟩
  rw [← hqh] at hh
  rw [← hql] at hl
  have RH := Lib.hid (fun j => show 0 ≤ qh j ∧ qh j ≤ 10000 by rw [hqh]; exact seqI_range (fun x hx => G.out.vapHi_range hx.1 hx.2) r2.1 r2.2 j)
  have RL := Lib.hid (fun j => show 0 ≤ ql j ∧ ql j ≤ 10000 by rw [hql]; exact seqI_range (fun x hx => G.out.vapLo_range hx.1 hx.2) r2.1 r2.2 j)
  have NH := Lib.hid (fun j => show qh (j + 1) = vapHi L B m (qh j) by rw [hqh]; rfl)
  have NL := Lib.hid (fun j => show ql (j + 1) = vapLo L A m (ql j) by rw [hql]; rfl)
  have Z1 := Lib.hid (show qh 0 = s by rw [hqh]; rfl)
  have Z2 := Lib.hid (show ql 0 = s by rw [hql]; rfl)
  clear hqh hql hE
  have VP := Lib.hid (fun y x (h : 0 ≤ x ∧ x ≤ 10000) => Calls.gw_of (rvapour_any aL aV m cL cV x x L A B (gw W2 y) G.out (HL.out.below (below_gw W2 y)) (HV.out.below (below_gw W2 y)) h.1 h.2 h.1 h.2))
  go_enter Try.func39, Try.ntmps39
  go_wp2_with fail
  rw [HW2.out]
  refine (Calls.grown (rcurve_b aL aV m m cL cV L A B W2 hn hm HL.out HV.out H1.out)).mono ?_
  rintro e w1 ⟨rfl, y, rfl⟩
  go_wp2_with fail
  refine (rin_b _ _ _ _ H2.out).mono ?_
  rintro e w1 ⟨rfl, rfl⟩
  go_wp2_with fail
  refine (rin_b _ _ _ _ H3.out).mono ?_
  rintro e w1 ⟨rfl, rfl⟩
  go_wp2_with fail
  go_loopw [9, 10, 11, 12, 13] (fun p q lo hi n wr => ∃ j : Nat, j ≤ 101 ∧ n = .int .i64 j ∧ p = .int .i64 (cntJ qh t j) ∧ q = .int .i64 (cntJ ql t j) ∧ lo = .int .i64 (ql j) ∧ hi = .int .i64 (qh j) ∧ ∃ x, wr = gw W2 x) (fun _ _ _ _ n _ => 101 - (intOf n).toNat)
  case atStart => exact ⟨0, by omega, rfl, by rw [cntJ_zero], by rw [cntJ_zero], by rw [Z2.out], by rw [Z1.out], y, rfl⟩
  case round =>
    obtain ⟨j, hj, rfl, rfl, rfl, rfl, rfl, x, rfl⟩ := hrel
    by_cases hlt : j < 101
    · have ch' := cntJ_cases qh t j
      have cl' := cntJ_cases ql t j
      have rh := RH.out j
      have rl := RL.out j
      have nh := NH.out j
      have nl := NL.out j
      obtain ⟨P1, hP1⟩ : ∃ P1, cntJ qh t (j + 1) = P1 := ⟨_, rfl⟩
      obtain ⟨Q1, hQ1⟩ : ∃ Q1, cntJ ql t (j + 1) = Q1 := ⟨_, rfl⟩
      obtain ⟨X1, hX1⟩ : ∃ X1, qh (j + 1) = X1 := ⟨_, rfl⟩
      obtain ⟨Y1, hY1⟩ : ∃ Y1, ql (j + 1) = Y1 := ⟨_, rfl⟩
      rw [hP1] at ch'
      rw [hQ1] at cl'
      rw [hX1] at nh
      rw [hY1] at nl
      have EP1 := Lib.hid hP1
      have EQ1 := Lib.hid hQ1
      have EX1 := Lib.hid hX1
      have EY1 := Lib.hid hY1
      clear hP1 hQ1 hX1 hY1
      generalize cntJ qh t j = P0 at *
      generalize cntJ ql t j = Q0 at *
      generalize qh j = X0 at *
      generalize ql j = Y0 at *
      have CH := Lib.hid ch'
      have CL := Lib.hid cl'
      have NH0 := Lib.hid nh
      have NL0 := Lib.hid nl
      clear ch' cl' nh nl
      rcases CH.out with ⟨h1, eh⟩ | ⟨h1, h2, eh⟩ | ⟨h1, h2, eh⟩
      all_goals
        have EHJ := Lib.hid eh
        clear eh
        rcases CL.out with ⟨l1, el⟩ | ⟨l1, l2, el⟩ | ⟨l1, l2, el⟩
        all_goals
          have ELJ := Lib.hid el
          clear el
          go_wp2_with fail
          refine (VP.out _ _ rl).mono ?_
          rintro e w1 ⟨rfl, x1, rfl⟩
          go_wp2_with fail
          refine (VP.out _ _ rh).mono ?_
          rintro e w1 ⟨rfl, x2, rfl⟩
          go_wp2_with fail
          go_roundw
          case rel => exact ⟨j + 1, by omega, by go_num, by rw [← EHJ.out]; rw [EP1.out], by rw [← ELJ.out]; rw [EQ1.out], by rw [← NL0.out]; rw [EY1.out], by rw [← NH0.out]; rw [EX1.out], x2, rfl⟩
          case measure => simp [intOf]; omega
    · obtain rfl : j = 101 := by omega
      have e1 : cntJ qh t 101 = ch := by rw [cntJ_end]; exact hh.eq
      have e2 : cntJ ql t 101 = cl := by rw [cntJ_end]; exact hl.eq
      rw [e1, e2]
      clear e1 e2
      by_cases hneg : ch < 0
      all_goals
        go_wp2_with fail
        go_ret3
        first
          | exact ⟨by unfold PlatesEnd; rw [if_pos hneg]; rfl, LOW.out.gw x⟩
          | exact ⟨by unfold PlatesEnd; rw [if_neg (by omega)]; rfl, LOW.out.gw x⟩
end Go.Proofs.Ytnmldophadanbaa

namespace Go.Proofs.Ytnmldophadanbaa
open Go.RowKit

attribute [local go_sem] gw_cell gw_frozen gw_size

def Three (a b x : Int) (w : World) (e : Ending) (w' : World) : Prop := e = .returned (.tuple #[.int .i64 a, .int .i64 b, .int .i64 x]) ∧ Below w.heap.size w w'

theorem cyc_both (fl fh kl kh s l : Int) : ∃ a b x : Int, (∀ w, Calls Try.prog 21 #[.agg #[.int .i64 fl, .int .i64 fh], .agg #[.int .i64 kl, .int .i64 kh], .int .i64 s, .int .i64 l] w (Three a b x w)) ∧
    (∀ w, Calls Try.prog 37 #[.agg #[.int .i64 fl, .int .i64 fh], .agg #[.int .i64 kl, .int .i64 kh], .int .i64 s, .int .i64 l] w (Three a b x w)) := by
  by_cases hE : cycErr fl fh kl kh s l = 0
  · obtain ⟨i, hi⟩ := cyc_exists fh kh s l
    by_cases hl : l < cycF fh kh s i
    · refine ⟨cycF fh kh s i, i, 0, fun w => ?_, fun w => rcycle_over fl fh kl kh s l w hE i hi hl⟩
      have := cycle_ok fl fh kl kh s l w hE i hi.1 hi.2
      rwa [show cycRun fh kh s l i = i by unfold cycRun; rw [if_pos hl]] at this
    · refine ⟨cycF fh kh s i, -1, 0, fun w => ?_, fun w => rcycle_stay fl fh kl kh s l w hE i hi (by omega)⟩
      have := cycle_ok fl fh kl kh s l w hE i hi.1 hi.2
      rwa [show cycRun fh kh s l i = -1 by unfold cycRun; rw [if_neg hl]] at this
  · exact ⟨0, 0, _, fun w => cycle_err fl fh kl kh s l w _ rfl hE, fun w => rcycle_err fl fh kl kh s l w _ rfl hE⟩
theorem wear_both (tl th wl wh l : Int) : ∃ a b x : Int, (∀ w, Calls Try.prog 26 #[.agg #[.int .i64 tl, .int .i64 th], .agg #[.int .i64 wl, .int .i64 wh], .int .i64 l] w (Three a b x w)) ∧
    (∀ w, Calls Try.prog 38 #[.agg #[.int .i64 tl, .int .i64 th], .agg #[.int .i64 wl, .int .i64 wh], .int .i64 l] w (Three a b x w)) :=
  ⟨_, _, _, fun w => wear_any tl th wl wh l w _ rfl, fun w => rwear_any tl th wl wh l w _ rfl⟩
theorem plates_both (aL aV : Option Addr) (n m cL cV : Nat) (L A B : Nat → Int) (s t : Int) (hn : n ≤ 1000000000000) (hm : m ≤ 1000000000000) : ∃ a b x : Int,
    (∀ w, IntsAt w aL n L → SpansAt w aV m A B → Calls Try.prog 34 #[.agg #[.slice aL n cL, .slice aV m cV], .int .i64 s, .int .i64 t] w (Three a b x w)) ∧
    (∀ w, IntsAt w aL n L → SpansAt w aV m A B → Calls Try.prog 39 #[.agg #[.slice aL n cL, .slice aV m cV], .int .i64 s, .int .i64 t] w (Three a b x w)) := by
  by_cases hE : platesErr n m L A B s t = 0
  · have h1 : CountIs (seqI (fun x => vapHi L B n x) s) t (countI (seqI (fun x => vapHi L B n x) s) t) := ⟨rfl⟩
    have h2 : CountIs (seqI (fun x => vapLo L A n x) s) t (countI (seqI (fun x => vapLo L A n x) s) t) := ⟨rfl⟩
    generalize countI (seqI (fun x => vapHi L B n x) s) t = ch at h1
    generalize countI (seqI (fun x => vapLo L A n x) s) t = cl at h2
    by_cases hneg : ch < 0
    · refine ⟨0, 0, 12, fun w hL hV => (plates_ok aL aV n m cL cV L A B s t w hn hm hL hV hE ch cl h1 h2).mono fun e w' ⟨he, hb⟩ => ⟨?_, hb⟩, fun w hL hV => (rplates_ok aL aV n m cL cV L A B s t w hn hm hL hV hE ch cl h1 h2).mono fun e w' ⟨he, hb⟩ => ⟨?_, hb⟩⟩
      all_goals
        unfold PlatesEnd at he
        rw [if_pos hneg] at he
        exact he
    · refine ⟨ch, cl, 0, fun w hL hV => (plates_ok aL aV n m cL cV L A B s t w hn hm hL hV hE ch cl h1 h2).mono fun e w' ⟨he, hb⟩ => ⟨?_, hb⟩, fun w hL hV => (rplates_ok aL aV n m cL cV L A B s t w hn hm hL hV hE ch cl h1 h2).mono fun e w' ⟨he, hb⟩ => ⟨?_, hb⟩⟩
      all_goals
        unfold PlatesEnd at he
        rw [if_neg hneg] at he
        exact he
  · exact ⟨0, 0, _, fun w hL hV => plates_err aL aV n m cL cV L A B s t w hn hm hL hV _ rfl hE, fun w hL hV => rplates_err aL aV n m cL cV L A B s t w hn hm hL hV _ rfl hE⟩

/-- four spans and a curve were boxed -/
structure RB (w W : World) (fl fh kl kh tl th wl wh : Int) (aL aV : Option Addr) (n m cL cV : Nat) : Prop where
  f0 : W.cell? ⟨w.heap.size, 0, none⟩ = some (.int .i64 fl)
  f1 : W.cell? ⟨w.heap.size, 1, none⟩ = some (.int .i64 fh)
  k0 : W.cell? ⟨w.heap.size + 1, 0, none⟩ = some (.int .i64 kl)
  k1 : W.cell? ⟨w.heap.size + 1, 1, none⟩ = some (.int .i64 kh)
  t0 : W.cell? ⟨w.heap.size + 1 + 1, 0, none⟩ = some (.int .i64 tl)
  t1 : W.cell? ⟨w.heap.size + 1 + 1, 1, none⟩ = some (.int .i64 th)
  w0 : W.cell? ⟨w.heap.size + 1 + 1 + 1, 0, none⟩ = some (.int .i64 wl)
  w1 : W.cell? ⟨w.heap.size + 1 + 1 + 1, 1, none⟩ = some (.int .i64 wh)
  c0 : W.cell? ⟨w.heap.size + 1 + 1 + 1 + 1, 0, none⟩ = some (.slice aL n cL)
  c1 : W.cell? ⟨w.heap.size + 1 + 1 + 1 + 1, 1, none⟩ = some (.slice aV m cV)
  sz : w.heap.size + 5 ≤ W.heap.size
  low : Below w.heap.size w W
theorem rb_of (w : World) (fl fh kl kh tl th wl wh : Int) (aL aV : Option Addr) (n m cL cV : Nat) (t t' : TypeId) :
    RB w (((((w.alloc (.cells #[.int .i64 fl, .int .i64 fh] t)).alloc (.cells #[.int .i64 kl, .int .i64 kh] t)).alloc (.cells #[.int .i64 tl, .int .i64 th] t)).alloc (.cells #[.int .i64 wl, .int .i64 wh] t)).alloc (.cells #[.slice aL n cL, .slice aV m cV] t')) fl fh kl kh tl th wl wh aL aV n m cL cV := by
  obtain ⟨z0, z1, z2, z3, z4, z5⟩ := five_blocks w (.cells #[.int .i64 fl, .int .i64 fh] t) (.cells #[.int .i64 kl, .int .i64 kh] t) (.cells #[.int .i64 tl, .int .i64 th] t) (.cells #[.int .i64 wl, .int .i64 wh] t) (.cells #[.slice aL n cL, .slice aV m cV] t')
  exact ⟨cell_of_block z1 0 (by simp), cell_of_block z1 1 (by simp), cell_of_block z2 0 (by simp), cell_of_block z2 1 (by simp), cell_of_block z3 0 (by simp), cell_of_block z3 1 (by simp), cell_of_block z4 0 (by simp), cell_of_block z4 1 (by simp), cell_of_block z5 0 (by simp), cell_of_block z5 1 (by simp), by rw [z0]; omega,
    (((((Below.refl _ w).alloc (Nat.le_refl _) _).alloc (by simp) _).alloc (by simp; omega) _).alloc (by simp; omega) _).alloc (by simp; omega) _⟩

set_option maxRecDepth 100000 in
set_option maxHeartbeats 8000000 in
theorem runs_any (fl fh kl kh s l tl th wl wh le fr tt : Int) (aL aV : Option Addr) (n m cL cV : Nat) (L A B : Nat → Int) (w : World) (hn : n ≤ 9223372036854775807) (hm : m ≤ 9223372036854775807) (hL : IntsAt w aL n L) (hV : SpansAt w aV m A B) :
    Calls Try.prog 13 #[.agg #[.int .i64 fl, .int .i64 fh], .agg #[.int .i64 kl, .int .i64 kh], .int .i64 s, .int .i64 l, .agg #[.int .i64 tl, .int .i64 th], .agg #[.int .i64 wl, .int .i64 wh], .int .i64 le, .agg #[.slice aL n cL, .slice aV m cV], .int .i64 fr, .int .i64 tt] w (True1 w) := by
  obtain ⟨W2, hW2⟩ : ∃ W2, ((((w.alloc (.cells #[.int .i64 fl, .int .i64 fh] 27)).alloc (.cells #[.int .i64 kl, .int .i64 kh] 27)).alloc (.cells #[.int .i64 tl, .int .i64 th] 27)).alloc (.cells #[.int .i64 wl, .int .i64 wh] 27)).alloc (.cells #[.slice aL n cL, .slice aV m cV] 25) = W2 := ⟨_, rfl⟩
  have rb : RB w W2 fl fh kl kh tl th wl wh aL aV n m cL cV := by rw [← hW2]; exact rb_of w fl fh kl kh tl th wl wh aL aV n m cL cV _ _
  have HL := Lib.hid (hL.below rb.low); clear hL
  have HV := Lib.hid (hV.below rb.low); clear hV
  have HW2 := Lib.hid hW2; clear hW2
  obtain ⟨f0, f1, q0, q1, t0, t1, w0, w1, c0, c1, sz, low⟩ := rb
  have LOW := Lib.hid low; clear low
  have s0 : w.heap.size < W2.heap.size := by omega
  have s1 : w.heap.size + 1 < W2.heap.size := by omega
  have s2 : w.heap.size + 1 + 1 < W2.heap.size := by omega
  have s3 : w.heap.size + 1 + 1 + 1 < W2.heap.size := by omega
  have s4 : w.heap.size + 1 + 1 + 1 + 1 < W2.heap.size := by omega
  cases h : longB n m 0 with
  | true =>
    have H := Lib.hid h; clear h
    go_enter Try.func13, Try.ntmps13
    go_wp2_with fail
    rw [HW2.out]
    refine (long_b _ _ _ _ _ _ _ _ _ _ hn hm (by omega) H.out).mono ?_
    rintro e w1 ⟨rfl, x, rfl⟩
    go_wp2_with fail
    refine (alive_any _).mono ?_
    rintro e w1 ⟨rfl, hb⟩
    have HB := Lib.hid (thru hb (LOW.out.gw x)); clear hb
    go_wp2_with fail
    go_ret
    exact ⟨rfl, HB.out⟩
  | false =>
    obtain ⟨k1, k2, k3⟩ := longB_f h
    obtain ⟨a1, b1, x1, P1, R1⟩ := cyc_both fl fh kl kh s l
    obtain ⟨a2, b2, x2, P2, R2⟩ := wear_both tl th wl wh le
    obtain ⟨a3, b3, x3, P3, R3⟩ := plates_both aL aV n m cL cV L A B fr tt (by omega) (by omega)
    have HP1 := Lib.hid P1; clear P1
    have HP2 := Lib.hid P2; clear P2
    have HP3 := Lib.hid P3; clear P3
    have HR1 := Lib.hid R1; clear R1
    have HR2 := Lib.hid R2; clear R2
    have HR3 := Lib.hid R3; clear R3
    have H := Lib.hid h; clear h
    go_enter Try.func13, Try.ntmps13
    go_wp2_with fail
    rw [HW2.out]
    refine (long_b _ _ _ _ _ _ _ _ _ _ hn hm (by omega) H.out).mono ?_
    rintro e w1 ⟨rfl, x, rfl⟩
    go_wp2_with fail
    refine (Calls.gw_of (HP1.out _)).mono ?_
    rintro e w1 ⟨rfl, y1, rfl⟩
    go_wp2_with fail
    refine (Calls.gw_of (HR1.out _)).mono ?_
    rintro e w1 ⟨rfl, y2, rfl⟩
    go_wp2_with fail
    refine (Calls.gw_of (HP2.out _)).mono ?_
    rintro e w1 ⟨rfl, y3, rfl⟩
    go_wp2_with fail
    refine (Calls.gw_of (HR2.out _)).mono ?_
    rintro e w1 ⟨rfl, y4, rfl⟩
    go_wp2_with fail
    refine (Calls.gw_of (HP3.out _ (HL.out.below (below_gw W2 y4)) (HV.out.below (below_gw W2 y4)))).mono ?_
    rintro e w1 ⟨rfl, y5, rfl⟩
    go_wp2_with fail
    refine (Calls.gw_of (HR3.out _ (HL.out.below (below_gw W2 y5)) (HV.out.below (below_gw W2 y5)))).mono ?_
    rintro e w1 ⟨rfl, y6, rfl⟩
    go_wp2_with fail
    refine (alive_any _).mono ?_
    rintro e w1 ⟨rfl, hb⟩
    have HB := Lib.hid (thru hb (LOW.out.gw y6)); clear hb
    go_wp2_with fail
    go_ret
    exact ⟨rfl, HB.out⟩
end Go.Proofs.Ytnmldophadanbaa
