/- Contract of the reference's Curve, Check; and of Check. Contracts of the reference's up, Line, vapour. Contracts of the reference's strong, vapour, Vapour, Check; of Check. No conditions beyond each theorem's own. -/
import Derived.Test.YtfefmgadfklgmaaGg
set_option linter.unusedVariables false
set_option linter.unusedSimpArgs false
set_option linter.unusedSectionVars false
set_option linter.constructorNameAsVariable false
namespace Go.Proofs.Ytfefmgadfklgmaa.L4
open Go.RowKit

attribute [local go_sem] gw_cell gw_frozen gw_size

theorem curveB_neg {n m : Nat} {L A B : Nat → Int} {k : Nat} (hk : k < n) (h : ∀ t, t < k → okB L A B t = true ∧ 0 ≤ L t) (hL : L k < 0) : curveB n m L A B = false := by
  by_cases h0 : k = 0
  · subst h0
    have : headB n m L A = false := by
      have : decide (L 0 = 0) = false := by simp; omega
      simp [headB, this]
    simp [curveB, this]
  · have := (h (k - 1) (by omega)).2
    exact curveB_not hk (okB_step (by omega) (by simp [stepB]; omega))

theorem curve_end {n : Nat} {L A B : Nat → Int} (h1 : inB n 2 32 = true) (h : ∀ t, t < n → okB L A B t = true ∧ 0 ≤ L t) : curveB n n L A B = (decide (L 0 = 0) && (decide (L (n - 1) = 10000) && decide (A 0 = 0))) := by
  have e : (List.range n).all (okB L A B) = true := by
    simp only [List.all_eq_true, List.mem_range]; exact fun t ht => (h t ht).1
  simp [curveB, headB, h1, e]
set_option maxRecDepth 100000 in
set_option maxHeartbeats 4000000 in
theorem rcurve_any (aL aV : Option Addr) (n m cL cV : Nat) (L A B : Nat → Int) (w : World) (hn : n ≤ 1000000000000) (hm : m ≤ 1000000000000) (hL : IntsAt w aL n L) (hV : SpansAt w aV m A B) :
    Calls Try.prog 6 #[.agg #[.slice aL n cL, .slice aV m cV]] w fun e w' => e = .returned (.bool (curveB n m L A B)) ∧ Below w.heap.size w w' := by
  cases h1 : inB n 2 32 with
  | false =>
    have hd := Lib.hid (show curveB n m L A B = false by simp [curveB, headB, h1])
    have H1 := Lib.hid h1; clear h1 hL hV
    rw [hd.out]
    go_enter Try.func6, Try.ntmps6
    go_wp2_with (go_at_call 16; refine (rin_b _ _ _ _ H1.out).mono ?_; rintro e w' ⟨rfl, rfl⟩)
    go_ret
    exact ⟨rfl, ((Below.refl _ _).alloc (Nat.le_refl _) _)⟩
  | true =>
    have hr := inB_t.1 h1
    by_cases h2 : m = n
    · subst h2
      have hne : ((m : Int) != (m : Int)) = false := by simp
      rcases hL with h0 | ⟨b, off, rfl, hbl, hc⟩
      · omega
      rcases hV with h0 | ⟨bv, offv, rfl, hbv, hcv⟩
      · omega
      obtain ⟨W1, hW1⟩ : ∃ W1, w.alloc (.cells #[.slice (some ⟨b, off, none⟩) m cL, .slice (some ⟨bv, offv, none⟩) m cV] 34) = W1 := ⟨_, rfl⟩
      have hB1 : Below w.heap.size w W1 := by rw [← hW1]; exact below_alloc _ _
      have f0 : W1.cell? ⟨w.heap.size, 0, none⟩ = some (.slice (some ⟨b, off, none⟩) m cL) := by rw [← hW1]; simp
      have f1 : W1.cell? ⟨w.heap.size, 1, none⟩ = some (.slice (some ⟨bv, offv, none⟩) m cV) := by rw [← hW1]; simp
      have z0 : w.heap.size < W1.heap.size := by rw [← hW1]; simp
      have z1 : b < W1.heap.size := by omega
      have z2 : bv < W1.heap.size := by omega
      have HC := Lib.hid (fun t (ht : t < m) => below_cell' hB1 (hc t ht))
      have HCV := Lib.hid (fun t (ht : t < m) => And.intro (below_cell' hB1 (hcv t ht).1) (below_cell' hB1 (hcv t ht).2))
      have H1 := Lib.hid h1
      have HB := Lib.hid hB1
      have HW1 := Lib.hid hW1
      clear hc hcv hB1 hW1 h1
      go_enter Try.func6, Try.ntmps6
      go_wp2_with fail
      rw [HW1.out]
      refine (rin_b _ _ _ _ H1.out).mono ?_
      rintro e w' ⟨rfl, rfl⟩
      go_wp2_with fail
      go_loopw [4] (fun i wr => ∃ k : Nat, k ≤ m ∧ i = .int .i64 k ∧ Hid (∀ t, t < k → okB L A B t = true ∧ 0 ≤ L t) ∧ ∃ x, wr = gw W1 x) (fun i _ => m - (intOf i).toNat)
      case atStart => exact ⟨0, by omega, rfl, Lib.hid (fun t ht => by omega), ⟨#[], W1.drawn⟩, by simp [gw]⟩
      case round =>
        obtain ⟨k, hk, rfl, HK, x, rfl⟩ := hrel
        by_cases hlt : k < m
        · have lk := HC.out k hlt
          obtain ⟨ak, bk⟩ := HCV.out k hlt
          cases hs : spanB (A k) (B k) (L k) 10000 with
          | false =>
            have HS := Lib.hid hs; clear hs
            go_wp2_with fail
            refine wp_region_gw2 (by kernel_rfl) (by kernel_rfl) ?_
            repeat (go_big_quiet_step (((go_at_call 17; exact Calls.gw_of (rwithin_b _ _ _ _ _ HS.out)))))
            refine wpQuiet_nil ?_
            rintro _ ⟨y, rfl⟩
            go_wp2_with fail
            go_ret
            exact ⟨ret_bool (a := false) (by rw [curveB_not hlt (okB_span HS.out)]), (HB.out.gw y)⟩
          | true =>
            have HS := Lib.hid hs; clear hs
            by_cases hneg : L k < 0
            · have hd : decide (L k < 0) = true := by simpa using hneg
              go_wp2_with fail
              refine wp_region_gw2 (by kernel_rfl) (by kernel_rfl) ?_
              repeat (go_big_quiet_step (((go_at_call 17; exact Calls.gw_of (rwithin_b _ _ _ _ _ HS.out)))))
              refine wpQuiet_nil ?_
              rintro _ ⟨y, rfl⟩
              go_wp2_with fail
              go_ret
              exact ⟨ret_bool (a := false) (by rw [curveB_neg hlt HK.out hneg]), (HB.out.gw y)⟩
            · have hd : decide (L k < 0) = false := by simpa using hneg
              by_cases hk0 : 0 < k
              · have g1 := HC.out (k - 1) (by omega)
                obtain ⟨g2, g3⟩ := HCV.out (k - 1) (by omega)
                have i1 : ((k : Int) - 1).toNat = k - 1 := by omega
                by_cases t1 : L k ≤ L (k - 1)
                · have HT := Lib.hid (show stepB L A B k = true by simp [stepB, t1])
                  have t1' : decide (L k ≤ L (k - 1)) = true := by simp [t1]
                  go_wp2_with fail
                  refine wp_region_gw2 (by kernel_rfl) (by kernel_rfl) ?_
                  repeat (go_big_quiet_step (((go_at_call 17; exact Calls.gw_of (rwithin_b _ _ _ _ _ HS.out)))))
                  refine wpQuiet_nil ?_
                  rintro _ ⟨y, rfl⟩
                  go_wp2_with fail
                  refine wp_region_gw2 (by kernel_rfl) (by kernel_rfl) ?_
                  repeat (go_big_quiet_step (fail))
                  refine wpQuiet_nil ?_
                  rintro _ ⟨y, rfl⟩
                  go_wp2_with fail
                  go_ret
                  exact ⟨ret_bool (a := false) (by rw [curveB_not hlt (okB_step hk0 HT.out)]), (HB.out.gw y)⟩
                · have t1' : decide (L k ≤ L (k - 1)) = false := by simp [t1]
                  by_cases t2 : A k < A (k - 1)
                  · have HT := Lib.hid (show stepB L A B k = true by simp [stepB, t2])
                    have t2' : decide (A k < A (k - 1)) = true := by simp [t2]
                    go_wp2_with fail
                    refine wp_region_gw2 (by kernel_rfl) (by kernel_rfl) ?_
                    repeat (go_big_quiet_step (((go_at_call 17; exact Calls.gw_of (rwithin_b _ _ _ _ _ HS.out)))))
                    refine wpQuiet_nil ?_
                    rintro _ ⟨y, rfl⟩
                    go_wp2_with fail
                    refine wp_region_gw2 (by kernel_rfl) (by kernel_rfl) ?_
                    repeat (go_big_quiet_step (fail))
                    refine wpQuiet_nil ?_
                    rintro _ ⟨y, rfl⟩
                    go_wp2_with fail
                    go_ret
                    exact ⟨ret_bool (a := false) (by rw [curveB_not hlt (okB_step hk0 HT.out)]), (HB.out.gw y)⟩
                  · have t2' : decide (A k < A (k - 1)) = false := by simp [t2]
                    by_cases t3 : B k < B (k - 1)
                    · have HT := Lib.hid (show stepB L A B k = true by simp [stepB, t3])
                      have t3' : decide (B k < B (k - 1)) = true := by simp [t3]
                      go_wp2_with fail
                      refine wp_region_gw2 (by kernel_rfl) (by kernel_rfl) ?_
                      repeat (go_big_quiet_step (((go_at_call 17; exact Calls.gw_of (rwithin_b _ _ _ _ _ HS.out)))))
                      refine wpQuiet_nil ?_
                      rintro _ ⟨y, rfl⟩
                      go_wp2_with fail
                      refine wp_region_gw2 (by kernel_rfl) (by kernel_rfl) ?_
                      repeat (go_big_quiet_step (fail))
                      refine wpQuiet_nil ?_
                      rintro _ ⟨y, rfl⟩
                      go_wp2_with fail
                      go_ret
                      exact ⟨ret_bool (a := false) (by rw [curveB_not hlt (okB_step hk0 HT.out)]), (HB.out.gw y)⟩
                    · have HT := Lib.hid (okB_good HS.out (show stepB L A B k = false by simp [stepB]; omega))
                      have t3' : decide (B k < B (k - 1)) = false := by simp [t3]
                      go_wp2_with fail
                      refine wp_region_gw2 (by kernel_rfl) (by kernel_rfl) ?_
                      repeat (go_big_quiet_step (((go_at_call 17; exact Calls.gw_of (rwithin_b _ _ _ _ _ HS.out)))))
                      refine wpQuiet_nil ?_
                      rintro _ ⟨y, rfl⟩
                      go_wp2_with fail
                      refine wp_region_gw2 (by kernel_rfl) (by kernel_rfl) ?_
                      repeat (go_big_quiet_step (fail))
                      refine wpQuiet_nil ?_
                      rintro _ ⟨y, rfl⟩
                      go_wp2_with fail
                      go_roundw
                      case rel => exact ⟨k + 1, by omega, by go_num, Lib.hid (all_succ HK.out ⟨HT.out, by omega⟩), y, rfl⟩
                      case measure => simp [intOf]; omega
              · have hk00 : k = 0 := by omega
                have HT := Lib.hid (okB_zero hk00 HS.out)
                subst hk00
                simp only [Nat.zero_mul, Nat.add_zero] at lk ak bk
                go_wp2_with fail
                refine wp_region_gw2 (by kernel_rfl) (by kernel_rfl) ?_
                repeat (go_big_quiet_step (((go_at_call 17; exact Calls.gw_of (rwithin_b _ _ _ _ _ HS.out)))))
                refine wpQuiet_nil ?_
                rintro _ ⟨y, rfl⟩
                go_wp2_with fail
                refine wp_region_gw2 (by kernel_rfl) (by kernel_rfl) ?_
                repeat (go_big_quiet_step (fail))
                refine wpQuiet_nil ?_
                rintro _ ⟨y, rfl⟩
                go_wp2_with fail
                go_roundw
                case rel => exact ⟨1, by omega, by go_num, Lib.hid (all_succ HK.out ⟨HT.out, by omega⟩), y, rfl⟩
                case measure => simp [intOf]; omega
        · obtain rfl : k = m := by omega
          have l0 := HC.out 0 (by omega)
          have l1 := HC.out (k - 1) (by omega)
          have v0 := (HCV.out 0 (by omega)).1
          simp only [Nat.zero_mul, Nat.add_zero] at l0 v0
          have i1 : ((k : Int) - 1).toNat = k - 1 := by omega
          have CB := Lib.hid (show curveB k k L A B = (decide (L 0 = 0) && (decide (L (k - 1) = 10000) && decide (A 0 = 0))) from curve_end H1.out HK.out)
          by_cases h3 : L 0 = 0
          · by_cases h4 : L (k - 1) = 10000
            · have b3 : (L 0 == 0) = true := by simpa using h3
              have b4 : (L (k - 1) == 10000) = true := by simpa using h4
              have CB2 := Lib.hid (show (A 0 == 0) = curveB k k L A B by rw [CB.out]; simp [h3, h4]; rfl)
              clear h3 h4
              go_wp2_with fail
              go_ret
              exact ⟨ret_bool CB2.out, HB.out.gw x⟩
            · have b3 : (L 0 == 0) = true := by simpa using h3
              have b4 : (L (k - 1) == 10000) = false := by simpa using h4
              have CB2 := Lib.hid (show false = curveB k k L A B by rw [CB.out]; simp [h4])
              clear h3 h4
              go_wp2_with fail
              go_ret
              exact ⟨ret_bool CB2.out, HB.out.gw x⟩
          · have b3 : (L 0 == 0) = false := by simpa using h3
            have CB2 := Lib.hid (show false = curveB k k L A B by rw [CB.out]; simp [h3])
            clear h3
            go_wp2_with fail
            go_ret
            exact ⟨ret_bool CB2.out, HB.out.gw x⟩
    · have hv : ((m : Int) != (n : Int)) = true := by simp; omega
      have hd := Lib.hid (show curveB n m L A B = false by simp [curveB, headB, h2])
      have H1 := Lib.hid h1; clear h1 hL hV
      rw [hd.out]
      go_enter Try.func6, Try.ntmps6
      go_wp2_with (go_at_call 16; refine (rin_b _ _ _ _ H1.out).mono ?_; rintro e w' ⟨rfl, rfl⟩)
      go_ret
      exact ⟨rfl, ((Below.refl _ _).alloc (Nat.le_refl _) _)⟩
end Go.Proofs.Ytfefmgadfklgmaa.L4

namespace Go.Proofs.Ytfefmgadfklgmaa.L4
open Go.RowKit

attribute [local go_sem] gw_cell gw_frozen gw_size

section
variable (aL aV : Option Addr) (n cL cV : Nat) (L A B : Nat → Int) (w : World) (g : Good n L A B) (hL : IntsAt w aL n L) (hV : SpansAt w aV n A B) (x : Int) (h0 : 0 ≤ x) (h1 : x ≤ 10000)
include g hL hV h0 h1
end

end Go.Proofs.Ytfefmgadfklgmaa.L4
