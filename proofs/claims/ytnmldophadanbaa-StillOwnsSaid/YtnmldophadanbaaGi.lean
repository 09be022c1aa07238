/- Contract of the reference's Curve, Check; and of Check. Contracts of the reference's up, Line, vapour. Contracts of the reference's strong, vapour, Vapour, Check; of Check. No conditions beyond each theorem's own. -/
import Derived.Test.YtnmldophadanbaaGg
set_option linter.unusedVariables false
set_option linter.unusedSimpArgs false
set_option linter.unusedSectionVars false
set_option linter.constructorNameAsVariable false
namespace Go.Proofs.Ytnmldophadanbaa
open Go.RowKit

attribute [local go_sem] gw_cell gw_frozen gw_size

theorem curveB_neg {n m : Nat} {L A B : Nat → Int} {k : Nat} (hk : k < n) (h : ∀ t, t < k → okB L A B t = true ∧ 0 ≤ L t) (hL : L k < 0) : curveB n m L A B = false := by
  by_cases h0 : k = 0
  · subst h0
    have : headB n m L A = false := by
      have : decide (L 0 = 0) = false := by simp; omega
      simp [headB, this]
    simp [curveB, this]
  · have := (h (k - 1) (by omega)).2
    exact curveB_not hk (okB_step (by omega) (by simp [stepB]; omega))

theorem curve_end {n : Nat} {L A B : Nat → Int} (h1 : inB n 2 32 = true) (h : ∀ t, t < n → okB L A B t = true ∧ 0 ≤ L t) : curveB n n L A B = (decide (L 0 = 0) && (decide (L (n - 1) = 10000) && decide (A 0 = 0))) := by
  have e : (List.range n).all (okB L A B) = true := by
    simp only [List.all_eq_true, List.mem_range]; exact fun t ht => (h t ht).1
  simp [curveB, headB, h1, e]
theorem below_cell' {W w1 : World} {b o : Nat} {v : Value} (hb : Below W.heap.size W w1) (h : W.cell? ⟨b, o, none⟩ = some v) : w1.cell? ⟨b, o, none⟩ = some v :=
  (hb.cell (p := ⟨b, o, none⟩) (World.block_lt_of_cell? W _ h)).trans h

set_option maxRecDepth 100000 in
set_option maxHeartbeats 4000000 in
theorem rcurve_any (aL aV : Option Addr) (n m cL cV : Nat) (L A B : Nat → Int) (w : World) (hn : n ≤ 1000000000000) (hm : m ≤ 1000000000000) (hL : IntsAt w aL n L) (hV : SpansAt w aV m A B) :
    Calls Try.prog 22 #[.agg #[.slice aL n cL, .slice aV m cV]] w fun e w' => e = .returned (.bool (curveB n m L A B)) ∧ Below w.heap.size w w' := by
  cases h1 : inB n 2 32 with
  | false =>
    have hd := Lib.hid (show curveB n m L A B = false by simp [curveB, headB, h1])
    have H1 := Lib.hid h1; clear h1 hL hV
    rw [hd.out]
    go_enter Try.func22, Try.ntmps22
    go_wp2_with (go_at_call 47; refine (rin_b _ _ _ _ H1.out).mono ?_; rintro e w' ⟨rfl, rfl⟩)
    go_ret
    exact ⟨rfl, ((Below.refl _ _).alloc (Nat.le_refl _) _)⟩
  | true =>
    have hr := inB_t.1 h1
    by_cases h2 : m = n
    · subst h2
      have hne : ((m : Int) != (m : Int)) = false := by simp
      rcases hL with h0 | ⟨b, off, rfl, hbl, hc⟩
      · omega
      rcases hV with h0 | ⟨bv, offv, rfl, hbv, hcv⟩
      · omega
      obtain ⟨W1, hW1⟩ : ∃ W1, w.alloc (.cells #[.slice (some ⟨b, off, none⟩) m cL, .slice (some ⟨bv, offv, none⟩) m cV] 25) = W1 := ⟨_, rfl⟩
      have hB1 : Below w.heap.size w W1 := by rw [← hW1]; exact below_alloc _ _
      have f0 : W1.cell? ⟨w.heap.size, 0, none⟩ = some (.slice (some ⟨b, off, none⟩) m cL) := by rw [← hW1]; simp
      have f1 : W1.cell? ⟨w.heap.size, 1, none⟩ = some (.slice (some ⟨bv, offv, none⟩) m cV) := by rw [← hW1]; simp
      have z0 : w.heap.size < W1.heap.size := by rw [← hW1]; simp
      have z1 : b < W1.heap.size := by omega
      have z2 : bv < W1.heap.size := by omega
      have HC := Lib.hid (fun t (ht : t < m) => below_cell' hB1 (hc t ht))
      have HCV := Lib.hid (fun t (ht : t < m) => And.intro (below_cell' hB1 (hcv t ht).1) (below_cell' hB1 (hcv t ht).2))
      have H1 := Lib.hid h1
      have HB := Lib.hid hB1
      have HW1 := Lib.hid hW1
      clear hc hcv hB1 hW1 h1
      go_enter Try.func22, Try.ntmps22
      go_wp2_with fail
      rw [HW1.out]
      refine (rin_b _ _ _ _ H1.out).mono ?_
      rintro e w' ⟨rfl, rfl⟩
      go_wp2_with fail
      go_loopw [4] (fun i wr => ∃ k : Nat, k ≤ m ∧ i = .int .i64 k ∧ Hid (∀ t, t < k → okB L A B t = true ∧ 0 ≤ L t) ∧ ∃ x, wr = gw W1 x) (fun i _ => m - (intOf i).toNat)
      case atStart => exact ⟨0, by omega, rfl, Lib.hid (fun t ht => by omega), ⟨#[], W1.drawn⟩, by simp [gw]⟩
      case round =>
        obtain ⟨k, hk, rfl, HK, x, rfl⟩ := hrel
        by_cases hlt : k < m
        · have lk := HC.out k hlt
          obtain ⟨ak, bk⟩ := HCV.out k hlt
          cases hs : spanB (A k) (B k) (L k) 10000 with
          | false =>
            have HS := Lib.hid hs; clear hs
            go_wp2_with fail
            refine wp_region_gw2 (by kernel_rfl) (by kernel_rfl) ?_
            repeat (go_big_quiet_step (((go_at_call 48; exact Calls.gw_of (rwithin_b _ _ _ _ _ HS.out)))))
            refine wpQuiet_nil ?_
            rintro _ ⟨y, rfl⟩
            go_wp2_with fail
            go_ret
            exact ⟨ret_bool (a := false) (by rw [curveB_not hlt (okB_span HS.out)]), (HB.out.gw y)⟩
          | true =>
            have HS := Lib.hid hs; clear hs
            by_cases hneg : L k < 0
            · have hd : decide (L k < 0) = true := by simpa using hneg
              go_wp2_with fail
              refine wp_region_gw2 (by kernel_rfl) (by kernel_rfl) ?_
              repeat (go_big_quiet_step (((go_at_call 48; exact Calls.gw_of (rwithin_b _ _ _ _ _ HS.out)))))
              refine wpQuiet_nil ?_
              rintro _ ⟨y, rfl⟩
              go_wp2_with fail
              go_ret
              exact ⟨ret_bool (a := false) (by rw [curveB_neg hlt HK.out hneg]), (HB.out.gw y)⟩
            · have hd : decide (L k < 0) = false := by simpa using hneg
              by_cases hk0 : 0 < k
              · have g1 := HC.out (k - 1) (by omega)
                obtain ⟨g2, g3⟩ := HCV.out (k - 1) (by omega)
                have i1 : ((k : Int) - 1).toNat = k - 1 := by omega
                by_cases t1 : L k ≤ L (k - 1)
                · have HT := Lib.hid (show stepB L A B k = true by simp [stepB, t1])
                  have t1' : decide (L k ≤ L (k - 1)) = true := by simp [t1]
                  go_wp2_with fail
                  refine wp_region_gw2 (by kernel_rfl) (by kernel_rfl) ?_
                  repeat (go_big_quiet_step (((go_at_call 48; exact Calls.gw_of (rwithin_b _ _ _ _ _ HS.out)))))
                  refine wpQuiet_nil ?_
                  rintro _ ⟨y, rfl⟩
                  go_wp2_with fail
                  refine wp_region_gw2 (by kernel_rfl) (by kernel_rfl) ?_
                  repeat (go_big_quiet_step (fail))
                  refine wpQuiet_nil ?_
                  rintro _ ⟨y, rfl⟩
                  go_wp2_with fail
                  go_ret
                  exact ⟨ret_bool (a := false) (by rw [curveB_not hlt (okB_step hk0 HT.out)]), (HB.out.gw y)⟩
                · have t1' : decide (L k ≤ L (k - 1)) = false := by simp [t1]
                  by_cases t2 : A k < A (k - 1)
                  · have HT := Lib.hid (show stepB L A B k = true by simp [stepB, t2])
                    have t2' : decide (A k < A (k - 1)) = true := by simp [t2]
                    go_wp2_with fail
                    refine wp_region_gw2 (by kernel_rfl) (by kernel_rfl) ?_
                    repeat (go_big_quiet_step (((go_at_call 48; exact Calls.gw_of (rwithin_b _ _ _ _ _ HS.out)))))
                    refine wpQuiet_nil ?_
                    rintro _ ⟨y, rfl⟩
                    go_wp2_with fail
                    refine wp_region_gw2 (by kernel_rfl) (by kernel_rfl) ?_
                    repeat (go_big_quiet_step (fail))
                    refine wpQuiet_nil ?_
                    rintro _ ⟨y, rfl⟩
                    go_wp2_with fail
                    go_ret
                    exact ⟨ret_bool (a := false) (by rw [curveB_not hlt (okB_step hk0 HT.out)]), (HB.out.gw y)⟩
                  · have t2' : decide (A k < A (k - 1)) = false := by simp [t2]
                    by_cases t3 : B k < B (k - 1)
                    · have HT := Lib.hid (show stepB L A B k = true by simp [stepB, t3])
                      have t3' : decide (B k < B (k - 1)) = true := by simp [t3]
                      go_wp2_with fail
                      refine wp_region_gw2 (by kernel_rfl) (by kernel_rfl) ?_
                      repeat (go_big_quiet_step (((go_at_call 48; exact Calls.gw_of (rwithin_b _ _ _ _ _ HS.out)))))
                      refine wpQuiet_nil ?_
                      rintro _ ⟨y, rfl⟩
                      go_wp2_with fail
                      refine wp_region_gw2 (by kernel_rfl) (by kernel_rfl) ?_
                      repeat (go_big_quiet_step (fail))
                      refine wpQuiet_nil ?_
                      rintro _ ⟨y, rfl⟩
                      go_wp2_with fail
                      go_ret
                      exact ⟨ret_bool (a := false) (by rw [curveB_not hlt (okB_step hk0 HT.out)]), (HB.out.gw y)⟩
                    · have HT := Lib.hid (okB_good HS.out (show stepB L A B k = false by simp [stepB]; omega))
                      have t3' : decide (B k < B (k - 1)) = false := by simp [t3]
                      go_wp2_with fail
                      refine wp_region_gw2 (by kernel_rfl) (by kernel_rfl) ?_
                      repeat (go_big_quiet_step (((go_at_call 48; exact Calls.gw_of (rwithin_b _ _ _ _ _ HS.out)))))
                      refine wpQuiet_nil ?_
                      rintro _ ⟨y, rfl⟩
                      go_wp2_with fail
                      refine wp_region_gw2 (by kernel_rfl) (by kernel_rfl) ?_
                      repeat (go_big_quiet_step (fail))
                      refine wpQuiet_nil ?_
                      rintro _ ⟨y, rfl⟩
                      go_wp2_with fail
                      go_roundw
                      case rel => exact ⟨k + 1, by omega, by go_num, Lib.hid (all_succ HK.out ⟨HT.out, by omega⟩), y, rfl⟩
                      case measure => simp [intOf]; omega
              · have hk00 : k = 0 := by omega
                have HT := Lib.hid (okB_zero hk00 HS.out)
                subst hk00
                simp only [Nat.zero_mul, Nat.add_zero] at lk ak bk
                go_wp2_with fail
                refine wp_region_gw2 (by kernel_rfl) (by kernel_rfl) ?_
                repeat (go_big_quiet_step (((go_at_call 48; exact Calls.gw_of (rwithin_b _ _ _ _ _ HS.out)))))
                refine wpQuiet_nil ?_
                rintro _ ⟨y, rfl⟩
                go_wp2_with fail
                refine wp_region_gw2 (by kernel_rfl) (by kernel_rfl) ?_
                repeat (go_big_quiet_step (fail))
                refine wpQuiet_nil ?_
                rintro _ ⟨y, rfl⟩
                go_wp2_with fail
                go_roundw
                case rel => exact ⟨1, by omega, by go_num, Lib.hid (all_succ HK.out ⟨HT.out, by omega⟩), y, rfl⟩
                case measure => simp [intOf]; omega
        · obtain rfl : k = m := by omega
          have l0 := HC.out 0 (by omega)
          have l1 := HC.out (k - 1) (by omega)
          have v0 := (HCV.out 0 (by omega)).1
          simp only [Nat.zero_mul, Nat.add_zero] at l0 v0
          have i1 : ((k : Int) - 1).toNat = k - 1 := by omega
          have CB := Lib.hid (show curveB k k L A B = (decide (L 0 = 0) && (decide (L (k - 1) = 10000) && decide (A 0 = 0))) from curve_end H1.out HK.out)
          by_cases h3 : L 0 = 0
          · by_cases h4 : L (k - 1) = 10000
            · have b3 : (L 0 == 0) = true := by simpa using h3
              have b4 : (L (k - 1) == 10000) = true := by simpa using h4
              have CB2 := Lib.hid (show (A 0 == 0) = curveB k k L A B by rw [CB.out]; simp [h3, h4]; rfl)
              clear h3 h4
              go_wp2_with fail
              go_ret
              exact ⟨ret_bool CB2.out, HB.out.gw x⟩
            · have b3 : (L 0 == 0) = true := by simpa using h3
              have b4 : (L (k - 1) == 10000) = false := by simpa using h4
              have CB2 := Lib.hid (show false = curveB k k L A B by rw [CB.out]; simp [h4])
              clear h3 h4
              go_wp2_with fail
              go_ret
              exact ⟨ret_bool CB2.out, HB.out.gw x⟩
          · have b3 : (L 0 == 0) = false := by simpa using h3
            have CB2 := Lib.hid (show false = curveB k k L A B by rw [CB.out]; simp [h3])
            clear h3
            go_wp2_with fail
            go_ret
            exact ⟨ret_bool CB2.out, HB.out.gw x⟩
    · have hv : ((m : Int) != (n : Int)) = true := by simp; omega
      have hd := Lib.hid (show curveB n m L A B = false by simp [curveB, headB, h2])
      have H1 := Lib.hid h1; clear h1 hL hV
      rw [hd.out]
      go_enter Try.func22, Try.ntmps22
      go_wp2_with (go_at_call 47; refine (rin_b _ _ _ _ H1.out).mono ?_; rintro e w' ⟨rfl, rfl⟩)
      go_ret
      exact ⟨rfl, ((Below.refl _ _).alloc (Nat.le_refl _) _)⟩
end Go.Proofs.Ytnmldophadanbaa

namespace Go.Proofs.Ytnmldophadanbaa
open Go.RowKit

attribute [local go_sem] gw_cell gw_frozen gw_size

set_option maxHeartbeats 400000 in
theorem rup_any (a b : Int) (w : World) (ha : 0 ≤ a) (ha2 : a ≤ 4000000000000000000) (hb : 1 ≤ b) (hb2 : b ≤ 4000000000000000000) :
    Calls Try.prog 63 #[.int .i64 a, .int .i64 b] w fun e w' => e = .returned (.int .i64 (upI a b)) ∧ w = w' := by
  unfold upI
  have h0 : ¬ b = 0 := by omega
  go_enter Try.func63, Try.ntmps63
  go_wp2
  go_ret
  exact ⟨rfl, rfl⟩

theorem mul_abs {a b A B : Int} (h1 : -A ≤ a) (h2 : a ≤ A) (h3 : -B ≤ b) (h4 : b ≤ B) : -(A * B) ≤ a * b ∧ a * b ≤ A * B := by
  have hA : 0 ≤ A := by omega
  have hB : 0 ≤ B := by omega
  have e : (a * b).natAbs ≤ A.natAbs * B.natAbs := by
    rw [Int.natAbs_mul]
    exact Nat.mul_le_mul (by omega) (by omega)
  have e2 : ((A.natAbs * B.natAbs : Nat) : Int) = A * B := by rw [Int.natCast_mul]; congr 1 <;> omega
  omega
/-- the segment in which the reference looks -/
structure RSeg (L : Nat → Int) (n i : Nat) (num den : Int) : Prop where
  lt : i + 1 < n
  le : ∀ t, t < i → t + 2 < n ∧ L (t + 1) * den ≤ num
  stop : ¬ (i + 2 < n ∧ L (i + 1) * den ≤ num)
def rnum (L E : Nat → Int) (i : Nat) (num den : Int) : Int := E i * (L (i + 1) - L i) * den + (E (i + 1) - E i) * (num - L i * den)
def rden (L : Nat → Int) (i : Nat) (den : Int) : Int := (L (i + 1) - L i) * den

theorem rseg_ex (L : Nat → Int) (n : Nat) (num den : Int) (hn : 2 ≤ n) : ∃ i, RSeg L n i num den := by
  have key : ∀ d i, n = i + 2 + d → (∀ t, t < i → t + 2 < n ∧ L (t + 1) * den ≤ num) → ∃ i, RSeg L n i num den := by
    intro d
    induction d with
    | zero => exact fun i hi h => ⟨i, by omega, h, by omega⟩
    | succ d ih =>
      intro i hi h
      by_cases hc : L (i + 1) * den ≤ num
      · exact ih (i + 1) (by omega) fun t ht => by
          by_cases e : t = i
          · subst e; exact ⟨by omega, hc⟩
          · exact h t (by omega)
      · exact ⟨i, by omega, h, fun hx => hc hx.2⟩
  exact key (n - 2) 0 (by omega) (fun t ht => by omega)

set_option maxRecDepth 100000 in
set_option maxHeartbeats 4000000 in
theorem rline_lo (aL aV : Option Addr) (n cL cV i : Nat) (num den : Int) (L A B : Nat → Int) (w : World) (g : Good n L A B) (hL : IntsAt w aL n L) (hV : SpansAt w aV n A B) (hs : RSeg L n i num den) (h0 : 0 ≤ num) (h1 : num ≤ 10000 * den) (h2 : 1 ≤ den) (h3 : den ≤ 1000000) :
    Calls Try.prog 52 #[.agg #[.slice aL n cL, .slice aV n cV], .bool false, .int .i64 num, .int .i64 den] w fun e w' => e = .returned (.tuple #[.int .i64 (rnum L A i num den), .int .i64 (rden L i den)]) ∧ Below w.heap.size w w' := by
  have two := g.two
  have most := g.most
  obtain ⟨i1, i2, i3⟩ := hs
  have RG := Lib.hid (fun t (ht : t < n) => g.range t ht)
  have IN := Lib.hid (fun t (ht : t + 1 < n) => g.inc t ht)
  have I2 := Lib.hid i2
  have I3 := Lib.hid i3
  clear i2 i3 g
  rcases hL with hx | ⟨b, off, rfl, hbl, hc⟩
  · omega
  rcases hV with hx | ⟨bv, offv, rfl, hbv, hcv⟩
  · omega
  obtain ⟨W1, hW1⟩ : ∃ W1, w.alloc (.cells #[.slice (some ⟨b, off, none⟩) n cL, .slice (some ⟨bv, offv, none⟩) n cV] 25) = W1 := ⟨_, rfl⟩
  have hB1 : Below w.heap.size w W1 := by rw [← hW1]; exact below_alloc _ _
  have f0 : W1.cell? ⟨w.heap.size, 0, none⟩ = some (.slice (some ⟨b, off, none⟩) n cL) := by rw [← hW1]; simp
  have f1 : W1.cell? ⟨w.heap.size, 1, none⟩ = some (.slice (some ⟨bv, offv, none⟩) n cV) := by rw [← hW1]; simp
  have z0 : w.heap.size < W1.heap.size := by rw [← hW1]; simp
  have z1 : b < W1.heap.size := by omega
  have z2 : bv < W1.heap.size := by omega
  have HC := Lib.hid (fun t (ht : t < n) => below_cell' hB1 (hc t ht))
  have HCV := Lib.hid (fun t (ht : t < n) => And.intro (below_cell' hB1 (hcv t ht).1) (below_cell' hB1 (hcv t ht).2))
  have HB := Lib.hid hB1
  have HW1 := Lib.hid hW1
  clear hc hcv hB1 hW1
  go_enter Try.func52, Try.ntmps52
  go_wp2_with fail
  rw [HW1.out]
  go_loopw [10] (fun t wr => ∃ j : Nat, j ≤ i ∧ t = .int .i64 j ∧ ∃ x, wr = gw W1 x) (fun t _ => i - (intOf t).toNat)
  case atStart => exact ⟨0, by omega, rfl, ⟨#[], W1.drawn⟩, by simp [gw]⟩
  case round =>
    obtain ⟨j, hj, rfl, x, rfl⟩ := hrel
    have lj := HC.out (j + 1) (by omega)
    have rj := RG.out (j + 1) (by omega)
    have p0 : 0 ≤ L (j + 1) * den := Int.mul_nonneg (by omega) (by omega)
    have p1 : L (j + 1) * den ≤ 10000 * 1000000 := Int.mul_le_mul (by omega) h3 (by omega) (by omega)
    by_cases hlt : j < i
    · obtain ⟨t1, t2⟩ := I2.out j hlt
      go_wp2_with fail
      go_roundw
      case rel => exact ⟨j + 1, by omega, by go_num, x, rfl⟩
      case measure => simp [intOf]; omega
    · obtain rfl : i = j := by omega
      have l0 := HC.out i (by omega)
      obtain ⟨a0, b0⟩ := HCV.out i (by omega)
      obtain ⟨a1, b1⟩ := HCV.out (i + 1) (by omega)
      have r0 := RG.out i (by omega)
      have inc := IN.out i (by omega)
      have RN := Lib.hid (show rnum L A i num den = A i * (L (i + 1) - L i) * den + (A (i + 1) - A i) * (num - L i * den) from rfl)
      have RD := Lib.hid (show rden L i den = (L (i + 1) - L i) * den from rfl)
      have q0 : 0 ≤ L i * den := Int.mul_nonneg (by omega) (by omega)
      have q1 : L i * den ≤ 10000 * 1000000 := Int.mul_le_mul (by omega) h3 (by omega) (by omega)
      have q2 : 0 ≤ (L (i + 1) - L i) * den := Int.mul_nonneg (by omega) (by omega)
      have q3 : (L (i + 1) - L i) * den ≤ 10000 * 1000000 := Int.mul_le_mul (by omega) h3 (by omega) (by omega)
      have q4 : 0 ≤ A i * (L (i + 1) - L i) := Int.mul_nonneg (by omega) (by omega)
      have q5 : A i * (L (i + 1) - L i) ≤ 10000 * 10000 := Int.mul_le_mul (by omega) (by omega) (by omega) (by omega)
      have q6 : 0 ≤ A i * (L (i + 1) - L i) * den := Int.mul_nonneg q4 (by omega)
      have q7 : A i * (L (i + 1) - L i) * den ≤ 10000 * 10000 * 1000000 := Int.mul_le_mul q5 h3 (by omega) (by omega)
      have q8 : -(10000 * 20000000000) ≤ (A (i + 1) - A i) * (num - L i * den) ∧ (A (i + 1) - A i) * (num - L i * den) ≤ 10000 * 20000000000 := mul_abs (by omega) (by omega) (by omega) (by omega)
      obtain ⟨q9, q10⟩ := q8
      have tst : ((i : Int) + 2 < (n : Int)) ∨ ¬ ((i : Int) + 2 < (n : Int)) := by omega
      rcases tst with c1 | c1
      · have c2 : ¬ L (i + 1) * den ≤ num := fun h => I3.out ⟨by omega, h⟩
        go_wp2_with fail
        refine wp_region_gw2 (by kernel_rfl) (by kernel_rfl) ?_
        repeat (go_big_quiet_step (fail))
        refine wpQuiet_nil ?_
        rintro _ ⟨y, rfl⟩
        go_wp2_with fail
        refine wp_region_gw2 (by kernel_rfl) (by kernel_rfl) ?_
        repeat (go_big_quiet_step (fail))
        refine wpQuiet_nil ?_
        rintro _ ⟨y, rfl⟩
        go_wp2_with fail
        rw [RN.out, RD.out]
        go_ret2
        exact ⟨rfl, HB.out.gw y⟩
      · go_wp2_with fail
        refine wp_region_gw2 (by kernel_rfl) (by kernel_rfl) ?_
        repeat (go_big_quiet_step (fail))
        refine wpQuiet_nil ?_
        rintro _ ⟨y, rfl⟩
        go_wp2_with fail
        refine wp_region_gw2 (by kernel_rfl) (by kernel_rfl) ?_
        repeat (go_big_quiet_step (fail))
        refine wpQuiet_nil ?_
        rintro _ ⟨y, rfl⟩
        go_wp2_with fail
        rw [RN.out, RD.out]
        go_ret2
        exact ⟨rfl, HB.out.gw y⟩

set_option maxRecDepth 100000 in
set_option maxHeartbeats 4000000 in
theorem rline_hi (aL aV : Option Addr) (n cL cV i : Nat) (num den : Int) (L A B : Nat → Int) (w : World) (g : Good n L A B) (hL : IntsAt w aL n L) (hV : SpansAt w aV n A B) (hs : RSeg L n i num den) (h0 : 0 ≤ num) (h1 : num ≤ 10000 * den) (h2 : 1 ≤ den) (h3 : den ≤ 1000000) :
    Calls Try.prog 52 #[.agg #[.slice aL n cL, .slice aV n cV], .bool true, .int .i64 num, .int .i64 den] w fun e w' => e = .returned (.tuple #[.int .i64 (rnum L B i num den), .int .i64 (rden L i den)]) ∧ Below w.heap.size w w' := by
  have two := g.two
  have most := g.most
  obtain ⟨i1, i2, i3⟩ := hs
  have RG := Lib.hid (fun t (ht : t < n) => g.range t ht)
  have IN := Lib.hid (fun t (ht : t + 1 < n) => g.inc t ht)
  have I2 := Lib.hid i2
  have I3 := Lib.hid i3
  clear i2 i3 g
  rcases hL with hx | ⟨b, off, rfl, hbl, hc⟩
  · omega
  rcases hV with hx | ⟨bv, offv, rfl, hbv, hcv⟩
  · omega
  obtain ⟨W1, hW1⟩ : ∃ W1, w.alloc (.cells #[.slice (some ⟨b, off, none⟩) n cL, .slice (some ⟨bv, offv, none⟩) n cV] 25) = W1 := ⟨_, rfl⟩
  have hB1 : Below w.heap.size w W1 := by rw [← hW1]; exact below_alloc _ _
  have f0 : W1.cell? ⟨w.heap.size, 0, none⟩ = some (.slice (some ⟨b, off, none⟩) n cL) := by rw [← hW1]; simp
  have f1 : W1.cell? ⟨w.heap.size, 1, none⟩ = some (.slice (some ⟨bv, offv, none⟩) n cV) := by rw [← hW1]; simp
  have z0 : w.heap.size < W1.heap.size := by rw [← hW1]; simp
  have z1 : b < W1.heap.size := by omega
  have z2 : bv < W1.heap.size := by omega
  have HC := Lib.hid (fun t (ht : t < n) => below_cell' hB1 (hc t ht))
  have HCV := Lib.hid (fun t (ht : t < n) => And.intro (below_cell' hB1 (hcv t ht).1) (below_cell' hB1 (hcv t ht).2))
  have HB := Lib.hid hB1
  have HW1 := Lib.hid hW1
  clear hc hcv hB1 hW1
  go_enter Try.func52, Try.ntmps52
  go_wp2_with fail
  rw [HW1.out]
  go_loopw [10] (fun t wr => ∃ j : Nat, j ≤ i ∧ t = .int .i64 j ∧ ∃ x, wr = gw W1 x) (fun t _ => i - (intOf t).toNat)
  case atStart => exact ⟨0, by omega, rfl, ⟨#[], W1.drawn⟩, by simp [gw]⟩
  case round =>
    obtain ⟨j, hj, rfl, x, rfl⟩ := hrel
    have lj := HC.out (j + 1) (by omega)
    have rj := RG.out (j + 1) (by omega)
    have p0 : 0 ≤ L (j + 1) * den := Int.mul_nonneg (by omega) (by omega)
    have p1 : L (j + 1) * den ≤ 10000 * 1000000 := Int.mul_le_mul (by omega) h3 (by omega) (by omega)
    by_cases hlt : j < i
    · obtain ⟨t1, t2⟩ := I2.out j hlt
      go_wp2_with fail
      go_roundw
      case rel => exact ⟨j + 1, by omega, by go_num, x, rfl⟩
      case measure => simp [intOf]; omega
    · obtain rfl : i = j := by omega
      have l0 := HC.out i (by omega)
      obtain ⟨a0, b0⟩ := HCV.out i (by omega)
      obtain ⟨a1, b1⟩ := HCV.out (i + 1) (by omega)
      have r0 := RG.out i (by omega)
      have inc := IN.out i (by omega)
      have RN := Lib.hid (show rnum L B i num den = B i * (L (i + 1) - L i) * den + (B (i + 1) - B i) * (num - L i * den) from rfl)
      have RD := Lib.hid (show rden L i den = (L (i + 1) - L i) * den from rfl)
      have q0 : 0 ≤ L i * den := Int.mul_nonneg (by omega) (by omega)
      have q1 : L i * den ≤ 10000 * 1000000 := Int.mul_le_mul (by omega) h3 (by omega) (by omega)
      have q2 : 0 ≤ (L (i + 1) - L i) * den := Int.mul_nonneg (by omega) (by omega)
      have q3 : (L (i + 1) - L i) * den ≤ 10000 * 1000000 := Int.mul_le_mul (by omega) h3 (by omega) (by omega)
      have q4 : 0 ≤ B i * (L (i + 1) - L i) := Int.mul_nonneg (by omega) (by omega)
      have q5 : B i * (L (i + 1) - L i) ≤ 10000 * 10000 := Int.mul_le_mul (by omega) (by omega) (by omega) (by omega)
      have q6 : 0 ≤ B i * (L (i + 1) - L i) * den := Int.mul_nonneg q4 (by omega)
      have q7 : B i * (L (i + 1) - L i) * den ≤ 10000 * 10000 * 1000000 := Int.mul_le_mul q5 h3 (by omega) (by omega)
      have q8 : -(10000 * 20000000000) ≤ (B (i + 1) - B i) * (num - L i * den) ∧ (B (i + 1) - B i) * (num - L i * den) ≤ 10000 * 20000000000 := mul_abs (by omega) (by omega) (by omega) (by omega)
      obtain ⟨q9, q10⟩ := q8
      have tst : ((i : Int) + 2 < (n : Int)) ∨ ¬ ((i : Int) + 2 < (n : Int)) := by omega
      rcases tst with c1 | c1
      · have c2 : ¬ L (i + 1) * den ≤ num := fun h => I3.out ⟨by omega, h⟩
        go_wp2_with fail
        refine wp_region_gw2 (by kernel_rfl) (by kernel_rfl) ?_
        repeat (go_big_quiet_step (fail))
        refine wpQuiet_nil ?_
        rintro _ ⟨y, rfl⟩
        go_wp2_with fail
        refine wp_region_gw2 (by kernel_rfl) (by kernel_rfl) ?_
        repeat (go_big_quiet_step (fail))
        refine wpQuiet_nil ?_
        rintro _ ⟨y, rfl⟩
        go_wp2_with fail
        refine wp_region_gw2 (by kernel_rfl) (by kernel_rfl) ?_
        repeat (go_big_quiet_step (fail))
        refine wpQuiet_nil ?_
        rintro _ ⟨y, rfl⟩
        go_wp2_with fail
        rw [RN.out, RD.out]
        go_ret2
        exact ⟨rfl, HB.out.gw y⟩
      · go_wp2_with fail
        refine wp_region_gw2 (by kernel_rfl) (by kernel_rfl) ?_
        repeat (go_big_quiet_step (fail))
        refine wpQuiet_nil ?_
        rintro _ ⟨y, rfl⟩
        go_wp2_with fail
        refine wp_region_gw2 (by kernel_rfl) (by kernel_rfl) ?_
        repeat (go_big_quiet_step (fail))
        refine wpQuiet_nil ?_
        rintro _ ⟨y, rfl⟩
        go_wp2_with fail
        refine wp_region_gw2 (by kernel_rfl) (by kernel_rfl) ?_
        repeat (go_big_quiet_step (fail))
        refine wpQuiet_nil ?_
        rintro _ ⟨y, rfl⟩
        go_wp2_with fail
        rw [RN.out, RD.out]
        go_ret2
        exact ⟨rfl, HB.out.gw y⟩
end Go.Proofs.Ytnmldophadanbaa

namespace Go.Proofs.Ytnmldophadanbaa
open Go.RowKit

attribute [local go_sem] gw_cell gw_frozen gw_size

theorem Good.strict {n : Nat} {L A B : Nat → Int} (g : Good n L A B) : ∀ s t, s < t → t < n → L s < L t := fun s t hst ht => by
  have h1 := g.inc s (by omega)
  have h2 := g.mono (s + 1) t (by omega) ht
  omega

/-- the reference looks in the same segment -/
theorem rseg_seg {n : Nat} {L A B : Nat → Int} (g : Good n L A B) {x : Int} (h0 : 0 ≤ x) (h1 : x ≤ 10000) : RSeg L n (segI L n x) x 1 := by
  obtain ⟨s1, s2, s3⟩ := g.seg h0 h1
  refine ⟨s1, fun t ht => ⟨by omega, ?_⟩, fun ⟨h2, h3⟩ => ?_⟩
  · have := g.mono (t + 1) (segI L n x) (by omega) (by omega)
    omega
  · have e : L (segI L n x + 1) = x := by omega
    have hl : segI L n x + 1 = lb L x n := lb_unique (by omega) (fun t ht => by rw [← e]; exact g.strict _ _ ht s1) (fun _ => by omega)
    have hf : foundB L x n = true := by
      unfold foundB
      rw [← hl]
      simp [e]; omega
    have : segI L n x = min (lb L x n) (n - 2) := by unfold segI; rw [if_pos hf]
    rw [← hl] at this
    omega
theorem rnum_one (L E : Nat → Int) (n : Nat) (x : Int) : rnum L E (segI L n x) x 1 = lineNum L E n x := by
  unfold rnum lineNum lineDen; simp
theorem rden_one (L : Nat → Int) (n : Nat) (x : Int) : rden L (segI L n x) 1 = lineDen L n x := by
  unfold rden lineDen; simp

section
variable (aL aV : Option Addr) (n cL cV : Nat) (L A B : Nat → Int) (w : World) (g : Good n L A B) (hL : IntsAt w aL n L) (hV : SpansAt w aV n A B) (x : Int) (h0 : 0 ≤ x) (h1 : x ≤ 10000)
include g hL hV h0 h1
theorem rline1_lo : Calls Try.prog 52 #[.agg #[.slice aL n cL, .slice aV n cV], .bool false, .int .i64 x, .int .i64 1] w fun e w' => e = .returned (.tuple #[.int .i64 (lineNum L A n x), .int .i64 (lineDen L n x)]) ∧ Below w.heap.size w w' := by
  have := rline_lo aL aV n cL cV _ x 1 L A B w g hL hV (rseg_seg g h0 h1) h0 (by omega) (by omega) (by omega)
  rwa [rnum_one, rden_one] at this
theorem rline1_hi : Calls Try.prog 52 #[.agg #[.slice aL n cL, .slice aV n cV], .bool true, .int .i64 x, .int .i64 1] w fun e w' => e = .returned (.tuple #[.int .i64 (lineNum L B n x), .int .i64 (lineDen L n x)]) ∧ Below w.heap.size w w' := by
  have := rline_hi aL aV n cL cV _ x 1 L A B w g hL hV (rseg_seg g h0 h1) h0 (by omega) (by omega) (by omega)
  rwa [rnum_one, rden_one] at this
end

set_option maxRecDepth 100000 in
set_option maxHeartbeats 1000000 in
theorem rvapour_any (aL aV : Option Addr) (n cL cV : Nat) (lo hi : Int) (L A B : Nat → Int) (w : World) (g : Good n L A B) (hL : IntsAt w aL n L) (hV : SpansAt w aV n A B)
    (h0 : 0 ≤ lo) (h1 : lo ≤ 10000) (h2 : 0 ≤ hi) (h3 : hi ≤ 10000) :
    Calls Try.prog 56 #[.agg #[.slice aL n cL, .slice aV n cV], .agg #[.int .i64 lo, .int .i64 hi]] w fun e w' => e = .returned (.agg #[.int .i64 (vapLo L A n lo), .int .i64 (vapHi L B n hi)]) ∧ Below w.heap.size w w' := by
  have d1 := g.den h0 h1
  have d2 := g.den h2 h3
  have m1 := lineNum_nonneg g (fun i hi => ⟨(g.range i hi).2.2.1, (g.range i hi).2.2.2.1⟩) h0 h1 (E := A)
  have m2 := lineNum_nonneg g (fun i hi => ⟨(g.range i hi).2.2.2.2.1, (g.range i hi).2.2.2.2.2⟩) h2 h3 (E := B)
  have nz : ¬ lineDen L n lo = 0 := by omega
  have HLa := Lib.hid (show vapLo L A n lo = lineNum L A n lo / lineDen L n lo from rfl)
  have HHa := Lib.hid (show vapHi L B n hi = upI (lineNum L B n hi) (lineDen L n hi) from rfl)
  obtain ⟨W1, hW1⟩ : ∃ W1, ((w.alloc (.cells #[.slice aL n cL, .slice aV n cV] 25)).alloc (.cells #[.int .i64 lo, .int .i64 hi] 27)).alloc (.cells #[.int .i64 0, .int .i64 0] 27) = W1 := ⟨_, rfl⟩
  have hB1 : Below w.heap.size w W1 := by rw [← hW1]; exact ((below_alloc _ _).alloc (by simp) _).alloc (by simp; omega) _
  have c0 : W1.cell? ⟨w.heap.size, 0, none⟩ = some (.slice aL n cL) := by rw [← hW1]; simp [go_sem]
  have c1 : W1.cell? ⟨w.heap.size, 1, none⟩ = some (.slice aV n cV) := by rw [← hW1]; simp [go_sem]
  have s0 : W1.cell? ⟨w.heap.size + 1, 0, none⟩ = some (.int .i64 lo) := by rw [← hW1]; simp [go_sem]
  have s1 : W1.cell? ⟨w.heap.size + 1, 1, none⟩ = some (.int .i64 hi) := by rw [← hW1]; simp [go_sem]
  have r0 : W1.cell? ⟨w.heap.size + 1 + 1, 0, none⟩ = some (.int .i64 0) := by rw [← hW1]; simp [go_sem]
  have r1 : W1.cell? ⟨w.heap.size + 1 + 1, 1, none⟩ = some (.int .i64 0) := by rw [← hW1]; simp [go_sem]
  have q0 : W1.frozen? ⟨w.heap.size + 1 + 1, 0, none⟩ = false := by rw [← hW1]; simp [go_sem]
  have q1 : W1.frozen? ⟨w.heap.size + 1 + 1, 1, none⟩ = false := by rw [← hW1]; simp [go_sem]
  have z0 : w.heap.size < W1.heap.size := by rw [← hW1]; simp; omega
  have z1 : w.heap.size + 1 < W1.heap.size := by rw [← hW1]; simp
  have z2 : w.heap.size + 1 + 1 < W1.heap.size := by rw [← hW1]; simp
  have CA := Lib.hid (fun y => Calls.gw_of (rline1_lo aL aV n cL cV L A B (gw W1 y) g ((hL.below hB1).below (below_gw W1 y)) ((hV.below hB1).below (below_gw W1 y)) lo h0 h1))
  have CB := Lib.hid (fun y => Calls.gw_of (rline1_hi aL aV n cL cV L A B (gw W1 y) g ((hL.below hB1).below (below_gw W1 y)) ((hV.below hB1).below (below_gw W1 y)) hi h2 h3))
  have CA0 := Lib.hid (Calls.grown (rline1_lo aL aV n cL cV L A B W1 g (hL.below hB1) (hV.below hB1) lo h0 h1))
  have HB := Lib.hid hB1
  have HW1 := Lib.hid hW1
  clear hW1 hB1 hL hV g
  go_enter Try.func56, Try.ntmps56
  go_wp2_with fail
  rw [HW1.out]
  refine CA0.out.mono ?_
  rintro e w1 ⟨rfl, x, rfl⟩
  go_wp2_with fail
  refine (CB.out x).mono ?_
  rintro e w1 ⟨rfl, y, rfl⟩
  go_wp2_with fail
  refine wp_region_gw_tail2 7 (by kernel_rfl) (by kernel_rfl) ?_
  simp only [List.take_succ_cons, List.take_zero]
  repeat (go_big_quiet_step (((go_at_call 63; exact Calls.gw_of_same ((rup_any _ _ _ (by omega) (by omega) (by omega) (by omega)))))))
  refine wpQuiet_nil ?_
  rintro _ ⟨z, rfl⟩
  simp only [List.drop_succ_cons, List.drop_zero]
  go_wp2
  rw [HLa.out, HHa.out]
  refine bodyPost_ret (v := .agg #[.int .i64 (lineNum L A n lo / lineDen L n lo), .int .i64 (upI (lineNum L B n hi) (lineDen L n hi))]) (by simp [results, Try.results56, go_sem, r0, r1, z2]) rfl ⟨rfl, ?_⟩
  exact ((HB.out.gw z).setCell (by simp; omega) _).setCell (by simp; omega) _
end Go.Proofs.Ytnmldophadanbaa
