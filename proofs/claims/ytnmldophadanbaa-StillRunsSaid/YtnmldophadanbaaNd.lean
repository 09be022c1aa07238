/- Contracts of the reference's Cycle, Wear, Plates. No conditions beyond each theorem's own. -/
import Derived.Test.YtnmldophadanbaaNc
import Derived.Test.YtnmldophadanbaaLg
set_option linter.unusedVariables false
set_option linter.unusedSimpArgs false
set_option linter.unusedSectionVars false
set_option linter.constructorNameAsVariable false
namespace Go.Proofs.Ytnmldophadanbaa
open Go.RowKit

attribute [local go_sem] gw_cell gw_frozen gw_size
attribute [local go_sem ↓] run_maxZ

set_option maxRecDepth 100000 in
set_option maxHeartbeats 2000000 in
theorem rcycle_err (fl fh kl kh s l : Int) (w : World) (x : Int) (hE : cycErr fl fh kl kh s l = x) (hx : x ≠ 0) :
    Calls Try.prog 37 #[.agg #[.int .i64 fl, .int .i64 fh], .agg #[.int .i64 kl, .int .i64 kh], .int .i64 s, .int .i64 l] w fun e w' =>
      e = .returned (.tuple #[.int .i64 0, .int .i64 0, .int .i64 x]) ∧ Below w.heap.size w w' := by
  cases a1 : spanB fl fh 0 1073741824 with
  | false =>
    obtain rfl : x = 1 := by rw [← hE]; unfold cycErr; rw [a1]; rfl
    clear hE hx
    have A1 := Lib.hid a1; clear a1
    go_enter Try.func37, Try.ntmps37
    go_wp2_with fail
    refine (Calls.grown (rwithin_b _ _ _ _ _ A1.out)).mono ?_
    rintro e w1 ⟨rfl, x, rfl⟩
    go_wp2_with fail
    go_ret3
    exact ⟨rfl, ((((Below.refl _ w).alloc (Nat.le_refl _) _).alloc (by simp) _).gw x)⟩
  | true =>
    have A1 := Lib.hid a1
    cases a2 : spanB kl kh 0 999 with
    | false =>
      obtain rfl : x = 1 := by rw [← hE]; unfold cycErr; rw [a1, a2]; rfl
      clear hE hx a1
      have A2 := Lib.hid a2; clear a2
      go_enter Try.func37, Try.ntmps37
      go_wp2_with fail
      refine (Calls.grown (rwithin_b _ _ _ _ _ A1.out)).mono ?_
      rintro e w1 ⟨rfl, x, rfl⟩
      go_wp2_with fail
      refine (Calls.gw_of (rwithin_b _ _ _ _ _ A2.out)).mono ?_
      rintro e w1 ⟨rfl, y, rfl⟩
      go_wp2_with fail
      go_ret3
      exact ⟨rfl, ((((Below.refl _ w).alloc (Nat.le_refl _) _).alloc (by simp) _).gw y)⟩
    | true =>
      have A2 := Lib.hid a2
      cases a3 : inB s 0 1073741824 with
      | false =>
        obtain rfl : x = 2 := by rw [← hE]; unfold cycErr; rw [a1, a2, a3]; rfl
        clear hE hx a1 a2
        have A3 := Lib.hid a3; clear a3
        go_enter Try.func37, Try.ntmps37
        go_wp2_with fail
        refine (Calls.grown (rwithin_b _ _ _ _ _ A1.out)).mono ?_
        rintro e w1 ⟨rfl, x, rfl⟩
        go_wp2_with fail
        refine (Calls.gw_of (rwithin_b _ _ _ _ _ A2.out)).mono ?_
        rintro e w1 ⟨rfl, y, rfl⟩
        go_wp2_with (go_at_call 47; refine (rin_b _ _ _ _ A3.out).mono ?_; rintro e w1 ⟨rfl, rfl⟩)
        go_ret3
        exact ⟨rfl, ((((Below.refl _ w).alloc (Nat.le_refl _) _).alloc (by simp) _).gw y)⟩
      | true =>
        have A3 := Lib.hid a3
        cases a4 : inB l 0 1073741824 with
        | false =>
          obtain rfl : x = 2 := by rw [← hE]; unfold cycErr; rw [a1, a2, a3, a4]; rfl
          clear hE hx a1 a2 a3
          have A4 := Lib.hid a4; clear a4
          go_enter Try.func37, Try.ntmps37
          go_wp2_with fail
          refine (Calls.grown (rwithin_b _ _ _ _ _ A1.out)).mono ?_
          rintro e w1 ⟨rfl, x, rfl⟩
          go_wp2_with fail
          refine (Calls.gw_of (rwithin_b _ _ _ _ _ A2.out)).mono ?_
          rintro e w1 ⟨rfl, y, rfl⟩
          go_wp2_with (first | (go_at_call 47; refine (rin_b _ _ _ _ A3.out).mono ?_; rintro e w1 ⟨rfl, rfl⟩; clear A3) | (go_at_call 47; refine (rin_b _ _ _ _ A4.out).mono ?_; rintro e w1 ⟨rfl, rfl⟩; clear A4))
          go_ret3
          exact ⟨rfl, ((((Below.refl _ w).alloc (Nat.le_refl _) _).alloc (by simp) _).gw y)⟩
        | true => exact absurd (by rw [← hE]; unfold cycErr; rw [a1, a2, a3, a4]; rfl) hx


theorem cyc_dec {F K s : Int} (hK : 0 ≤ K) {i : Nat} (h : cycF F K s (i + 1) ≤ cycF F K s i) : ∀ d, cycF F K s (i + d + 1) ≤ cycF F K s (i + d)
  | 0 => h
  | d + 1 => by
    have ih := cyc_dec hK h d
    show upI ((cycF F K s (i + d + 1) + F) * K) 1000 ≤ upI ((cycF F K s (i + d) + F) * K) 1000
    exact upI_mono (by omega) (Int.mul_le_mul_of_nonneg_right (by omega) hK)
theorem cyc_nonneg {F K s : Int} (h0 : 0 ≤ s) (hF : 0 ≤ F) (hK : 0 ≤ K) : ∀ j, 0 ≤ cycF F K s j
  | 0 => h0
  | j + 1 => upI_nonneg (Int.mul_nonneg (by have := cyc_nonneg h0 hF hK j; omega) hK) (by omega)
/-- the greatest one up to the last run -/
def mostAt (F K s : Int) (i j : Nat) : Int := cycF F K s (min (j - 1) i)
theorem cyc_down {F K s : Int} {i : Nat} (h : ∀ d, cycF F K s (i + d + 1) ≤ cycF F K s (i + d)) : ∀ d, cycF F K s (i + d) ≤ cycF F K s i
  | 0 => Int.le_refl _
  | d + 1 => Int.le_trans (h d) (cyc_down h d)
theorem most_next {F K s l : Int} {i : Nat} (_ : True) (g : ∀ j, j < i → cycF F K s j ≤ l ∧ cycF F K s j < cycF F K s (j + 1)) (h : ∀ d, cycF F K s (i + d + 1) ≤ cycF F K s (i + d)) (j : Nat) : maxZ (mostAt F K s i j) (cycF F K s j) = mostAt F K s i (j + 1) := by
  rw [maxZ_eq]
  unfold mostAt
  rw [Nat.add_sub_cancel]
  rcases Nat.lt_or_ge i j with hj | hj
  · rw [Nat.min_eq_right (by omega), Nat.min_eq_right (by omega)]
    have := cyc_down h (j - i)
    rw [show i + (j - i) = j by omega] at this
    omega
  · rw [Nat.min_eq_left (by omega), Nat.min_eq_left hj]
    by_cases h0 : j = 0
    · subst h0; simp
    · have := (g (j - 1) (by omega)).2
      rw [show j - 1 + 1 = j by omega] at this
      omega

set_option maxRecDepth 100000 in
set_option maxHeartbeats 4000000 in
theorem rcycle_over (fl fh kl kh s l : Int) (w : World) (hE : cycErr fl fh kl kh s l = 0) (i : Nat) (hi : CycEnd fh kh s l i) (hl : l < cycF fh kh s i) :
    Calls Try.prog 37 #[.agg #[.int .i64 fl, .int .i64 fh], .agg #[.int .i64 kl, .int .i64 kh], .int .i64 s, .int .i64 l] w fun e w' =>
      e = .returned (.tuple #[.int .i64 (cycF fh kh s i), .int .i64 (i), .int .i64 0]) ∧ Below w.heap.size w w' := by
  obtain ⟨a1, a2, a3, a4⟩ := cyc_valid hE
  have b1 := spanB_t.1 a1
  have b2 := spanB_t.1 a2
  have b3 := inB_t.1 a3
  have b4 := inB_t.1 a4
  have A1 := Lib.hid a1; clear a1
  have A2 := Lib.hid a2; clear a2
  have A3 := Lib.hid a3; clear a3
  have A4 := Lib.hid a4; clear a4
  obtain ⟨g1, g2⟩ := hi
  have BD := Lib.hid (fun (j : Nat) (hj : j ≤ i) => cyc_bound (l := l) b3.1 b3.2 b4.2 (by omega : 0 ≤ fh) b1.2.2 (by omega : 0 ≤ kh) b2.2.2 j (fun t ht => g1 t (by omega)))
  have GO := Lib.hid g1; clear g1
  go_enter Try.func37, Try.ntmps37
  go_wp2_with fail
  refine (Calls.grown (rwithin_b _ _ _ _ _ A1.out)).mono ?_
  rintro e w1 ⟨rfl, x, rfl⟩
  go_wp2_with fail
  refine (Calls.gw_of (rwithin_b _ _ _ _ _ A2.out)).mono ?_
  rintro e w1 ⟨rfl, y, rfl⟩
  go_wp2_with fail
  refine (rin_b _ _ _ _ A3.out).mono ?_
  rintro e w1 ⟨rfl, rfl⟩
  go_wp2_with fail
  refine (rin_b _ _ _ _ A4.out).mono ?_
  rintro e w1 ⟨rfl, rfl⟩
  go_wp2_with fail
  clear g2
  go_loop [11, 12, 13] (fun f m r => ∃ j : Nat, j ≤ i ∧ r = .int .i64 j ∧ f = .int .i64 (cycF fh kh s j) ∧ ∃ M : Int, m = .int .i64 M ∧ 0 ≤ M ∧ M ≤ 2147483648) (fun _ _ r => i - (intOf r).toNat)
  case atStart => exact ⟨0, Nat.zero_le _, rfl, rfl, s, rfl, by omega, by omega⟩
  case round =>
    obtain ⟨j, hj, rfl, rfl, M, rfl, m1, m2⟩ := hrel
    have bd := BD.out j hj
    have hji : j ≤ 2147483648 := by
      have : ∀ t : Nat, t ≤ j → (t : Int) ≤ cycF fh kh s t := fun t => by
        induction t with
        | zero => intro _; exact b3.1
        | succ t ih => intro ht; have := ih (by omega); have := (GO.out t (by omega)).2; omega
      have := this j (Nat.le_refl _)
      omega
    have mz : 0 ≤ maxZ M (cycF fh kh s j) ∧ maxZ M (cycF fh kh s j) ≤ 2147483648 := by rw [maxZ_eq]; omega
    by_cases hlt : j < i
    · obtain ⟨t1, t2⟩ := GO.out j hlt
      have nx := cycF_next bd.1 (by omega : cycF fh kh s j ≤ 1073741824) (by omega : 0 ≤ fh) b1.2.2 (by omega : 0 ≤ kh) b2.2.2
      have HU := Lib.hid (show cycF fh kh s (j + 1) = upI ((cycF fh kh s j + fh) * kh) 1000 from rfl)
      rw [HU.out] at t2
      have ne : (upI ((cycF fh kh s j + fh) * kh) 1000 == cycF fh kh s j) = false := by simp; omega
      go_wp2_with (go_at_call 63; refine (rup_any _ _ _ (by omega) (by omega) (by omega) (by omega)).mono ?_; rintro e w1 ⟨rfl, rfl⟩)
      go_round
      case rel => exact ⟨j + 1, hlt, by go_num, by rw [HU.out], _, rfl, mz.1, mz.2⟩
      case measure => simp [intOf]; omega
    · obtain rfl : j = i := by omega
      go_wp2_with fail
      go_ret3
      exact ⟨rfl, (((Below.refl _ w).alloc (Nat.le_refl _) _).alloc (by simp) _).gw y⟩

set_option maxRecDepth 100000 in
set_option maxHeartbeats 4000000 in
theorem rcycle_stay (fl fh kl kh s l : Int) (w : World) (hE : cycErr fl fh kl kh s l = 0) (i : Nat) (hi : CycEnd fh kh s l i) (hl : cycF fh kh s i ≤ l) :
    Calls Try.prog 37 #[.agg #[.int .i64 fl, .int .i64 fh], .agg #[.int .i64 kl, .int .i64 kh], .int .i64 s, .int .i64 l] w fun e w' =>
      e = .returned (.tuple #[.int .i64 (cycF fh kh s i), .int .i64 (-1), .int .i64 0]) ∧ Below w.heap.size w w' := by
  obtain ⟨a1, a2, a3, a4⟩ := cyc_valid hE
  have b1 := spanB_t.1 a1
  have b2 := spanB_t.1 a2
  have b3 := inB_t.1 a3
  have b4 := inB_t.1 a4
  have A1 := Lib.hid a1; clear a1
  have A2 := Lib.hid a2; clear a2
  have A3 := Lib.hid a3; clear a3
  have A4 := Lib.hid a4; clear a4
  obtain ⟨g1, g2⟩ := hi
  have BD := Lib.hid (fun (j : Nat) (hj : j ≤ i) => cyc_bound (l := l) b3.1 b3.2 b4.2 (by omega : 0 ≤ fh) b1.2.2 (by omega : 0 ≤ kh) b2.2.2 j (fun t ht => g1 t (by omega)))
  have GO := Lib.hid g1; clear g1
  have g3 : cycF fh kh s (i + 1) ≤ cycF fh kh s i := by omega
  have MX := Lib.hid (fun j => cyc_max (l := l) (by omega : 0 ≤ kh) ⟨GO.out, g2⟩ hl j)
  have DE := Lib.hid (cyc_dec (by omega : 0 ≤ kh) g3)
  have NN := Lib.hid (cyc_nonneg (F := fh) (K := kh) (s := s) (by omega) (by omega) (by omega))
  clear g2 g3
  go_enter Try.func37, Try.ntmps37
  go_wp2_with fail
  refine (Calls.grown (rwithin_b _ _ _ _ _ A1.out)).mono ?_
  rintro e w1 ⟨rfl, x, rfl⟩
  go_wp2_with fail
  refine (Calls.gw_of (rwithin_b _ _ _ _ _ A2.out)).mono ?_
  rintro e w1 ⟨rfl, y, rfl⟩
  go_wp2_with fail
  refine (rin_b _ _ _ _ A3.out).mono ?_
  rintro e w1 ⟨rfl, rfl⟩
  go_wp2_with fail
  refine (rin_b _ _ _ _ A4.out).mono ?_
  rintro e w1 ⟨rfl, rfl⟩
  go_wp2_with fail
  go_loop [11, 12, 13] (fun f m r => ∃ j : Nat, (j ≤ i ∨ (j : Int) + cycF fh kh s j ≤ i + cycF fh kh s i) ∧ r = .int .i64 j ∧ f = .int .i64 (cycF fh kh s j) ∧ m = .int .i64 (mostAt fh kh s i j)) (fun f _ r => (i - (intOf r).toNat) * 4294967296 + (intOf f).toNat)
  case atStart => exact ⟨0, .inl (Nat.zero_le _), rfl, rfl, by unfold mostAt; simp; rfl⟩
  case round =>
    obtain ⟨j, hj, rfl, rfl, rfl⟩ := hrel
    have bi := BD.out i (Nat.le_refl _)
    have mj := MX.out j
    have nj := NN.out j
    have hii : i ≤ 2147483648 := by
      have : ∀ t : Nat, t ≤ i → (t : Int) ≤ cycF fh kh s t := fun t => by
        induction t with
        | zero => intro _; exact b3.1
        | succ t ih => intro ht; have := ih (by omega); have := (GO.out t (by omega)).2; omega
      have := this i (Nat.le_refl _)
      omega
    have hji : (j : Int) ≤ 8589934592 := by omega
    have EM := Lib.hid (show maxZ (mostAt fh kh s i j) (cycF fh kh s j) = mostAt fh kh s i (j + 1) from most_next (l := l) trivial GO.out DE.out j)
    have nx := cycF_next nj (by omega : cycF fh kh s j ≤ 1073741824) (by omega : 0 ≤ fh) b1.2.2 (by omega : 0 ≤ kh) b2.2.2
    have HU := Lib.hid (show cycF fh kh s (j + 1) = upI ((cycF fh kh s j + fh) * kh) 1000 from rfl)
    have nj1 := NN.out (j + 1)
    by_cases heq : cycF fh kh s (j + 1) = cycF fh kh s j
    · have hij : i ≤ j := Nat.not_lt.1 fun h => by have := (GO.out j h).2; omega
      have ET := Lib.hid (show mostAt fh kh s i (j + 1) = cycF fh kh s i by unfold mostAt; rw [Nat.add_sub_cancel, Nat.min_eq_right hij])
      rw [HU.out] at heq
      have ne : (upI ((cycF fh kh s j + fh) * kh) 1000 == cycF fh kh s j) = true := by simpa using heq
      clear heq nj1
      go_wp2_with (go_at_call 63; refine (rup_any _ _ _ (by omega) (by omega) (by omega) (by omega)).mono ?_; rintro e w1 ⟨rfl, rfl⟩)
      rw [EM.out, ET.out]
      go_ret3
      exact ⟨rfl, (((Below.refl _ w).alloc (Nat.le_refl _) _).alloc (by simp) _).gw y⟩
    · have st : j < i ∨ (i ≤ j ∧ cycF fh kh s (j + 1) < cycF fh kh s j) := by
        rcases Nat.lt_or_ge j i with h | h
        · exact .inl h
        · have := DE.out (j - i)
          rw [show i + (j - i) = j by omega] at this
          exact .inr ⟨h, by omega⟩
      have m2 := MX.out (j + 1)
      have j2 : (j + 1 ≤ i ∨ ((j + 1 : Nat) : Int) + cycF fh kh s (j + 1) ≤ i + cycF fh kh s i) := by
        rcases st with h | ⟨h1, h2⟩
        · exact .inl h
        · rcases hj with h3 | h3
          · obtain rfl : i = j := by omega
            exact .inr (by omega)
          · exact .inr (by omega)
      have J2 := Lib.hid j2
      have ms : (i - (j + 1)) * 4294967296 + (cycF fh kh s (j + 1)).toNat < (i - j) * 4294967296 + (cycF fh kh s j).toNat := by
        rcases st with h | ⟨h1, h2⟩
        · have e : i - j = (i - (j + 1)) + 1 := by omega
          rw [e, Nat.add_mul]
          omega
        · rw [show i - (j + 1) = 0 by omega, show i - j = 0 by omega]
          omega
      rw [HU.out] at heq ms
      have ne : (upI ((cycF fh kh s j + fh) * kh) 1000 == cycF fh kh s j) = false := by simpa using heq
      have MS := Lib.hid ms
      clear heq st ms m2 j2 nj1
      go_wp2_with (go_at_call 63; refine (rup_any _ _ _ (by omega) (by omega) (by omega) (by omega)).mono ?_; rintro e w1 ⟨rfl, rfl⟩)
      rw [EM.out]
      go_round
      case rel => exact ⟨j + 1, J2.out, by go_num, by rw [HU.out], rfl⟩
      case measure => have := MS.out; simp [intOf]; omega

theorem times_any (t w l : Int) (W : World) (h0 : 0 ≤ l) (h1 : l ≤ t) (h2 : t ≤ 1073741824) (h3 : 0 ≤ w) (h4 : w ≤ 1073741824) :
    Calls Try.prog 64 #[.int .i64 t, .int .i64 w, .int .i64 l] W fun e w' => e = .returned (.int .i64 (runsI t w l)) ∧ W = w' := by
  by_cases hw : w = 0
  · have HR := Lib.hid (show runsI t w l = -1 by unfold runsI; rw [if_pos hw])
    have e : (w == 0) = true := by simpa using hw
    clear hw
    rw [HR.out]
    go_enter Try.func64, Try.ntmps64
    go_wp2
    go_ret
    exact ⟨rfl, rfl⟩
  · have HR := Lib.hid (show runsI t w l = (t - l) / w by unfold runsI; rw [if_neg hw])
    have e : (w == 0) = false := by simpa using hw
    rw [HR.out]
    go_enter Try.func64, Try.ntmps64
    go_wp2
    go_ret
    exact ⟨rfl, rfl⟩

set_option maxRecDepth 100000 in
set_option maxHeartbeats 2000000 in
theorem rwear_any (tl th wl wh l : Int) (w : World) (x : Int) (hE : wearErr tl th wl wh l = x) :
    Calls Try.prog 38 #[.agg #[.int .i64 tl, .int .i64 th], .agg #[.int .i64 wl, .int .i64 wh], .int .i64 l] w fun e w' =>
      e = .returned (.tuple #[.int .i64 (if x = 0 then runsI tl wh l else 0), .int .i64 (if x = 0 then runsI th wl l else 0), .int .i64 x]) ∧ Below w.heap.size w w' := by
  cases a1 : spanB tl th 0 1073741824 with
  | false =>
    obtain rfl : x = 1 := by rw [← hE]; unfold wearErr; rw [a1]; rfl
    clear hE
    have A1 := Lib.hid a1; clear a1
    go_enter Try.func38, Try.ntmps38
    go_wp2_with fail
    refine (Calls.grown (rwithin_b _ _ _ _ _ A1.out)).mono ?_
    rintro e w1 ⟨rfl, x, rfl⟩
    go_wp2_with fail
    go_ret3
    exact ⟨rfl, ((((Below.refl _ w).alloc (Nat.le_refl _) _).alloc (by simp) _).gw x)⟩
  | true =>
    cases a2 : spanB wl wh 0 1073741824 with
    | false =>
      obtain rfl : x = 1 := by rw [← hE]; unfold wearErr; rw [a1, a2]; rfl
      clear hE
      have A1 := Lib.hid a1; clear a1
      have A2 := Lib.hid a2; clear a2
      go_enter Try.func38, Try.ntmps38
      go_wp2_with fail
      refine (Calls.grown (rwithin_b _ _ _ _ _ A1.out)).mono ?_
      rintro e w1 ⟨rfl, x, rfl⟩
      go_wp2_with fail
      refine (Calls.gw_of (rwithin_b _ _ _ _ _ A2.out)).mono ?_
      rintro e w1 ⟨rfl, y, rfl⟩
      go_wp2_with fail
      go_ret3
      exact ⟨rfl, ((((Below.refl _ w).alloc (Nat.le_refl _) _).alloc (by simp) _).gw y)⟩
    | true =>
      have b1 := spanB_t.1 a1
      have b2 := spanB_t.1 a2
      have A1 := Lib.hid a1
      have A2 := Lib.hid a2
      cases a3 : inB l 0 1073741824 with
      | false =>
        obtain rfl : x = 2 := by rw [← hE]; unfold wearErr; rw [a1, a2, a3]; rfl
        have A3 := Lib.hid a3; clear a1 a2 a3 hE
        go_enter Try.func38, Try.ntmps38
        go_wp2_with fail
        refine (Calls.grown (rwithin_b _ _ _ _ _ A1.out)).mono ?_
        rintro e w1 ⟨rfl, x, rfl⟩
        go_wp2_with fail
        refine (Calls.gw_of (rwithin_b _ _ _ _ _ A2.out)).mono ?_
        rintro e w1 ⟨rfl, y, rfl⟩
        go_wp2_with fail
        refine (rin_b _ _ _ _ A3.out).mono ?_
        rintro e w1 ⟨rfl, rfl⟩
        go_wp2_with fail
        go_ret3
        exact ⟨rfl, ((((Below.refl _ w).alloc (Nat.le_refl _) _).alloc (by simp) _).gw y)⟩
      | true =>
        have b3 := inB_t.1 a3
        by_cases hl : tl < l
        · obtain rfl : x = 12 := by rw [← hE]; unfold wearErr; rw [a1, a2, a3, if_pos hl]; rfl
          have A3 := Lib.hid a3; clear a1 a2 a3 hE
          go_enter Try.func38, Try.ntmps38
          go_wp2_with fail
          refine (Calls.grown (rwithin_b _ _ _ _ _ A1.out)).mono ?_
          rintro e w1 ⟨rfl, x, rfl⟩
          go_wp2_with fail
          refine (Calls.gw_of (rwithin_b _ _ _ _ _ A2.out)).mono ?_
          rintro e w1 ⟨rfl, y, rfl⟩
          go_wp2_with fail
          refine (rin_b _ _ _ _ A3.out).mono ?_
          rintro e w1 ⟨rfl, rfl⟩
          go_wp2_with fail
          go_ret3
          exact ⟨rfl, ((((Below.refl _ w).alloc (Nat.le_refl _) _).alloc (by simp) _).gw y)⟩
        · obtain rfl : x = 0 := by rw [← hE]; unfold wearErr; rw [a1, a2, a3, if_neg hl]; rfl
          have A3 := Lib.hid a3; clear a1 a2 a3 hE
          go_enter Try.func38, Try.ntmps38
          go_wp2_with fail
          refine (Calls.grown (rwithin_b _ _ _ _ _ A1.out)).mono ?_
          rintro e w1 ⟨rfl, x, rfl⟩
          go_wp2_with fail
          refine (Calls.gw_of (rwithin_b _ _ _ _ _ A2.out)).mono ?_
          rintro e w1 ⟨rfl, y, rfl⟩
          go_wp2_with fail
          refine (rin_b _ _ _ _ A3.out).mono ?_
          rintro e w1 ⟨rfl, rfl⟩
          go_wp2_with fail
          refine wp_region_gw2 (by kernel_rfl) (by kernel_rfl) ?_
          repeat (go_big_quiet_step ((go_at_call 64; exact Calls.gw_of_same (times_any _ _ _ _ (by omega) (by omega) (by omega) (by omega) (by omega)))))
          refine wpQuiet_nil ?_
          rintro _ ⟨z, rfl⟩
          go_wp2_with fail
          go_ret3
          exact ⟨rfl, ((((Below.refl _ w).alloc (Nat.le_refl _) _).alloc (by simp) _).gw z)⟩

end Go.Proofs.Ytnmldophadanbaa
