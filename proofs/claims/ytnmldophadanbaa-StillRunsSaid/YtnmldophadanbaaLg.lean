/- StillForever: Cycle with an error; what is true of runs; the law where there is an error. No conditions beyond each theorem's own. -/
import Derived.Test.YtnmldophadanbaaWq
import Derived.Test.YtnmldophadanbaaFb
import Derived.Test.YtnmldophadanbaaLb
set_option linter.unusedVariables false
set_option linter.unusedSimpArgs false
set_option linter.unusedSectionVars false
set_option linter.constructorNameAsVariable false
namespace Go.Proofs.Ytnmldophadanbaa
open Go.RowKit

attribute [local go_sem] gw_cell gw_frozen gw_size

theorem cyc_valid {fl fh kl kh s l : Int} (hE : cycErr fl fh kl kh s l = 0) : spanB fl fh 0 1073741824 = true ∧ spanB kl kh 0 999 = true ∧ inB s 0 1073741824 = true ∧ inB l 0 1073741824 = true := by
  unfold cycErr at hE
  split at hE
  · rename_i h1
    split at hE
    · rename_i h2
      simp only [Bool.and_eq_true] at h1 h2
      exact ⟨h1.1, h1.2, h2.1, h2.2⟩
    · omega
  · omega

set_option maxRecDepth 100000 in
set_option maxHeartbeats 2000000 in
theorem cycle_err (fl fh kl kh s l : Int) (w : World) (x : Int) (hE : cycErr fl fh kl kh s l = x) (hx : x ≠ 0) :
    Calls Try.prog 21 #[.agg #[.int .i64 fl, .int .i64 fh], .agg #[.int .i64 kl, .int .i64 kh], .int .i64 s, .int .i64 l] w fun e w' =>
      e = .returned (.tuple #[.int .i64 0, .int .i64 0, .int .i64 x]) ∧ Below w.heap.size w w' := by
  cases a1 : spanB fl fh 0 1073741824 with
  | false =>
    obtain rfl : x = 1 := by rw [← hE]; unfold cycErr; rw [a1]; rfl
    clear hE hx
    have A1 := Lib.hid a1; clear a1
    go_enter Try.func21, Try.ntmps21
    go_wp2_with fail
    refine (Calls.grown (isSpan_b _ _ _ _ _ A1.out)).mono ?_
    rintro e w1 ⟨rfl, x, rfl⟩
    go_wp2_with fail
    go_ret3
    exact ⟨rfl, ((((Below.refl _ w).alloc (Nat.le_refl _) _).alloc (by simp) _).gw x)⟩
  | true =>
    have A1 := Lib.hid a1
    cases a2 : spanB kl kh 0 999 with
    | false =>
      obtain rfl : x = 1 := by rw [← hE]; unfold cycErr; rw [a1, a2]; rfl
      clear hE hx a1
      have A2 := Lib.hid a2; clear a2
      go_enter Try.func21, Try.ntmps21
      go_wp2_with fail
      refine (Calls.grown (isSpan_b _ _ _ _ _ A1.out)).mono ?_
      rintro e w1 ⟨rfl, x, rfl⟩
      go_wp2_with fail
      refine (Calls.gw_of (isSpan_b _ _ _ _ _ A2.out)).mono ?_
      rintro e w1 ⟨rfl, y, rfl⟩
      go_wp2_with fail
      go_ret3
      exact ⟨rfl, ((((Below.refl _ w).alloc (Nat.le_refl _) _).alloc (by simp) _).gw y)⟩
    | true =>
      have A2 := Lib.hid a2
      cases a3 : inB s 0 1073741824 with
      | false =>
        obtain rfl : x = 2 := by rw [← hE]; unfold cycErr; rw [a1, a2, a3]; rfl
        clear hE hx a1 a2
        have A3 := Lib.hid a3; clear a3
        go_enter Try.func21, Try.ntmps21
        go_wp2_with fail
        refine (Calls.grown (isSpan_b _ _ _ _ _ A1.out)).mono ?_
        rintro e w1 ⟨rfl, x, rfl⟩
        go_wp2_with fail
        refine (Calls.gw_of (isSpan_b _ _ _ _ _ A2.out)).mono ?_
        rintro e w1 ⟨rfl, y, rfl⟩
        go_wp2_with (go_at_call 50; refine (within_b _ _ _ _ A3.out).mono ?_; rintro e w1 ⟨rfl, rfl⟩)
        go_ret3
        exact ⟨rfl, ((((Below.refl _ w).alloc (Nat.le_refl _) _).alloc (by simp) _).gw y)⟩
      | true =>
        have A3 := Lib.hid a3
        cases a4 : inB l 0 1073741824 with
        | false =>
          obtain rfl : x = 2 := by rw [← hE]; unfold cycErr; rw [a1, a2, a3, a4]; rfl
          clear hE hx a1 a2 a3
          have A4 := Lib.hid a4; clear a4
          go_enter Try.func21, Try.ntmps21
          go_wp2_with fail
          refine (Calls.grown (isSpan_b _ _ _ _ _ A1.out)).mono ?_
          rintro e w1 ⟨rfl, x, rfl⟩
          go_wp2_with fail
          refine (Calls.gw_of (isSpan_b _ _ _ _ _ A2.out)).mono ?_
          rintro e w1 ⟨rfl, y, rfl⟩
          go_wp2_with (first | (go_at_call 50; refine (within_b _ _ _ _ A3.out).mono ?_; rintro e w1 ⟨rfl, rfl⟩; clear A3) | (go_at_call 50; refine (within_b _ _ _ _ A4.out).mono ?_; rintro e w1 ⟨rfl, rfl⟩; clear A4))
          go_ret3
          exact ⟨rfl, ((((Below.refl _ w).alloc (Nat.le_refl _) _).alloc (by simp) _).gw y)⟩
        | true => exact absurd (by rw [← hE]; unfold cycErr; rw [a1, a2, a3, a4]; rfl) hx

/-- run i is where Cycle ends -/
def CycEnd (F K s l : Int) (i : Nat) : Prop := (∀ j, j < i → cycF F K s j ≤ l ∧ cycF F K s j < cycF F K s (j + 1)) ∧ (l < cycF F K s i ∨ cycF F K s (i + 1) ≤ cycF F K s i)

theorem cyc_exists_from (F K s l : Int) : ∀ (m n : Nat), (l + 1 - cycF F K s n).toNat ≤ m → (∀ j, j < n → cycF F K s j ≤ l ∧ cycF F K s j < cycF F K s (j + 1)) → ∃ i, n ≤ i ∧ CycEnd F K s l i
  | 0, n, hm, h => ⟨n, Nat.le_refl _, h, .inl (by omega)⟩
  | m + 1, n, hm, h => by
    by_cases h1 : cycF F K s n ≤ l
    · by_cases h2 : cycF F K s n < cycF F K s (n + 1)
      · obtain ⟨i, hi, he⟩ := cyc_exists_from F K s l m (n + 1) (by omega) (fun j hj => by
          rcases Nat.lt_or_eq_of_le (Nat.lt_succ_iff.1 hj) with h' | h'
          · exact h j h'
          · rw [h']; exact ⟨h1, h2⟩)
        exact ⟨i, by omega, he⟩
      · exact ⟨n, Nat.le_refl _, h, .inr (by omega)⟩
    · exact ⟨n, Nat.le_refl _, h, .inl (by omega)⟩
theorem cyc_exists (F K s l : Int) : ∃ i, CycEnd F K s l i := by
  obtain ⟨i, _, h⟩ := cyc_exists_from F K s l _ 0 (Nat.le_refl _) (fun j hj => by omega)
  exact ⟨i, h⟩

theorem upI_mono {a b c : Int} (hc : 1 ≤ c) (h : a ≤ b) : upI a c ≤ upI b c := by unfold upI; exact Int.ediv_le_ediv (by omega) (by omega)

/-- behind a run that does not rise none rises above it -/
theorem cyc_after {F K s : Int} (hK : 0 ≤ K) {i : Nat} (h : cycF F K s (i + 1) ≤ cycF F K s i) : ∀ j, cycF F K s (i + j) ≤ cycF F K s i
  | 0 => Int.le_refl _
  | j + 1 => by
    have ih := cyc_after hK h j
    have : cycF F K s (i + (j + 1)) ≤ cycF F K s (i + 1) := by
      show upI ((cycF F K s (i + j) + F) * K) 1000 ≤ upI ((cycF F K s i + F) * K) 1000
      exact upI_mono (by omega) (Int.mul_le_mul_of_nonneg_right (by omega) hK)
    omega
theorem cyc_before {F K s l : Int} {i : Nat} (h : ∀ j, j < i → cycF F K s j ≤ l ∧ cycF F K s j < cycF F K s (j + 1)) : ∀ d j, j + d = i → cycF F K s j ≤ cycF F K s i
  | 0, j, e => by rw [show j = i by omega]; exact Int.le_refl _
  | d + 1, j, e => by
    have := cyc_before h d (j + 1) (by omega)
    have := (h j (by omega)).2
    omega

/-- never more than where Cycle ends, if that is not above the limit -/
theorem cyc_max {F K s l : Int} (hK : 0 ≤ K) {i : Nat} (h : CycEnd F K s l i) (hl : cycF F K s i ≤ l) (j : Nat) : cycF F K s j ≤ cycF F K s i := by
  rcases Nat.le_total j i with h1 | h1
  · exact cyc_before h.1 (i - j) j (by omega)
  · obtain ⟨d, rfl⟩ : ∃ d, j = i + d := ⟨j - i, by omega⟩
    rcases h.2 with h2 | h2
    · omega
    · exact cyc_after hK h2 d

/-- what truly returns -/
def retF (fl fh kl kh s : Int) (n : Nat) (Y : Nat → Int) : Nat → Int
  | 0 => s
  | k + 1 => innerI ((retF fl fh kl kh s n Y k + innerI fl fh (Y ((k + 1) % n))) * innerI kl kh (Y (k % n)) / 1000) (((retF fl fh kl kh s n Y k + innerI fl fh (Y ((k + 1) % n))) * innerI kl kh (Y (k % n)) + 999) / 1000) (Y ((k + 2) % n))

theorem ret_step {f g x k F K : Int} (h0 : 0 ≤ f) (hf : f ≤ g) (hx0 : 0 ≤ x) (hx : x ≤ F) (hk0 : 0 ≤ k) (hk : k ≤ K) : 0 ≤ (f + x) * k ∧ (f + x) * k ≤ (g + F) * K := by
  exact ⟨Int.mul_nonneg (by omega) hk0, Int.mul_le_mul (by omega) hk hk0 (by omega)⟩

theorem retF_le {fl fh kl kh s : Int} {n : Nat} {Y : Nat → Int} (h1 : 0 ≤ fl) (h2 : fl ≤ fh) (h3 : 0 ≤ kl) (h4 : kl ≤ kh) (hs : 0 ≤ s) : ∀ k, 0 ≤ retF fl fh kl kh s n Y k ∧ retF fl fh kl kh s n Y k ≤ cycF fh kh s k
  | 0 => ⟨hs, Int.le_refl _⟩
  | k + 1 => by
    have ih := retF_le (n := n) (Y := Y) h1 h2 h3 h4 hs k
    have a := innerI_range (b := Y ((k + 1) % n)) h2
    have b := innerI_range (b := Y (k % n)) h4
    have st := ret_step ih.1 ih.2 (show 0 ≤ innerI fl fh (Y ((k + 1) % n)) by omega) a.2 (show 0 ≤ innerI kl kh (Y (k % n)) by omega) b.2
    unfold retF
    show _ ∧ _ ≤ upI ((cycF fh kh s k + fh) * kh) 1000
    unfold upI
    generalize (retF fl fh kl kh s n Y k + innerI fl fh (Y ((k + 1) % n))) * innerI kl kh (Y (k % n)) = p at *
    have c := innerI_range (lo := p / 1000) (hi := (p + 999) / 1000) (b := Y ((k + 2) % n)) (by omega)
    omega

set_option maxRecDepth 100000 in
set_option maxHeartbeats 4000000 in
theorem forever_err (fl fh kl kh s l m : Int) (a : Option Addr) (n c : Nat) (w : World) (x : Int) (hE : cycErr fl fh kl kh s l = x) (hx : x ≠ 0) :
    Calls Try.prog 4 #[.agg #[.int .i64 fl, .int .i64 fh], .agg #[.int .i64 kl, .int .i64 kh], .int .i64 s, .int .i64 l, .int .i64 m, .slice a n c] w (True1 w) := by
  have hW := cycle_err fl fh kl kh s l (((w.alloc (.cells #[.int .i64 fl, .int .i64 fh] 27)).alloc (.cells #[.int .i64 kl, .int .i64 kh] 27))) x hE hx
  have hc : x = 1 ∨ x = 2 := by
    unfold cycErr at hE
    split at hE
    · split at hE
      · exact absurd hE.symm hx
      · exact .inr hE.symm
    · exact .inl hE.symm
  have HW := Lib.hid (Calls.grown hW); clear hW hE hx
  rcases hc with rfl | rfl
  all_goals
    go_enter Try.func4, Try.ntmps4
    go_wp2_with fail
    refine HW.out.mono ?_
    clear HW
    rintro e w1 ⟨rfl, y, rfl⟩
    go_wp2_with fail
    refine (alive_any _).mono ?_
    rintro e w1 ⟨rfl, hb⟩
    have HB := Lib.hid (thru hb ((((Below.refl _ w).alloc (Nat.le_refl _) _).alloc (by simp) _).gw y)); clear hb
    go_wp2_with fail
    go_ret
    exact ⟨rfl, HB.out⟩
end Go.Proofs.Ytnmldophadanbaa
