/- The law StrengthWater returns true. No conditions beyond each theorem's own. -/
import Derived.Test.YtohcopdfdmjhnaaTd
import Derived.Test.YtohcopdfdmjhnaaSt
import Derived.Test.YtohcopdfdmjhnaaSu
set_option linter.unusedVariables false
set_option linter.unusedSimpArgs false
set_option linter.unusedSectionVars false
set_option linter.constructorNameAsVariable false
namespace Go.Proofs.Ytohcopdfdmjhnaa.L1
open Go.RowKit
open Go.Proofs.Ytohcopdfdmjhnaa

attribute [local go_sem] gw_cell gw_frozen gw_size

/-- plain: with so much water the strength is at least the target; with one millilitre more it may be less -/
theorem water_plain {a c n V A S q : Int} (a0 : 0 ≤ a) (a1 : a ≤ A) (c1 : c ≤ S) (n1 : 1 ≤ n) (nc : n ≤ c) (hq : a * (c - n) / n = q) (hV : V ≤ q) : n * (A + V) ≤ A * S ∧ (V = q → a * c < n * (a + V + 1)) := by
  have e := Int.mul_ediv_add_emod (a * (c - n)) n
  have m0 := Int.emod_nonneg (a * (c - n)) (show n ≠ 0 by omega)
  have m1 := Int.emod_lt_of_pos (a * (c - n)) (show 0 < n by omega)
  rw [hq] at e
  have f1 := Int.mul_le_mul_of_nonneg_left hV (show 0 ≤ n by omega)
  have f2 := Int.mul_le_mul_of_nonneg_right a1 (show 0 ≤ c - n by omega)
  have f3 := Int.mul_le_mul_of_nonneg_left c1 (show 0 ≤ A by omega)
  rw [Int.mul_sub] at e f2 m1 m0
  rw [Int.mul_sub] at f2
  refine ⟨?_, fun h => ?_⟩
  · rw [Int.mul_add, Int.mul_comm n A]; omega
  · rw [h, Int.mul_add, Int.mul_add, Int.mul_comm n a]; omega

set_option maxRecDepth 100000 in
set_option maxHeartbeats 4000000 in
theorem water_any (a b c d n u v : Int) (w : World) (u0 : 0 ≤ u) (u1 : u ≤ 4294967295) (v0 : 0 ≤ v) (v1 : v ≤ 4294967295) :
    Calls Try.prog 8 #[.agg #[.int .i64 a, .int .i64 b, .int .i64 c, .int .i64 d], .int .i64 n, .int .u32 u, .int .u32 v] w fun e w' => e = .returned (.bool true) ∧ Below w.heap.size w w' := by
  obtain ⟨W1, hW1⟩ : ∃ W1, w.alloc (.cells #[.int .i64 a, .int .i64 b, .int .i64 c, .int .i64 d] 43) = W1 := ⟨_, rfl⟩
  have hBc : Below w.heap.size w W1 := by rw [← hW1]; exact below_alloc _ _
  have zc0 : W1.heap[w.heap.size]? = some (.cells #[.int .i64 a, .int .i64 b, .int .i64 c, .int .i64 d] 43 (0, 0)) := by rw [← hW1]; exact alloc_at rfl
  have c00 : W1.cell? ⟨w.heap.size, 0, none⟩ = some (.int .i64 a) := cell_of_block zc0 0 (by simp)
  have c01 : W1.cell? ⟨w.heap.size, 1, none⟩ = some (.int .i64 b) := cell_of_block zc0 1 (by simp)
  have c02 : W1.cell? ⟨w.heap.size, 2, none⟩ = some (.int .i64 c) := cell_of_block zc0 2 (by simp)
  have c03 : W1.cell? ⟨w.heap.size, 3, none⟩ = some (.int .i64 d) := cell_of_block zc0 3 (by simp)
  have lc0 := (Array.getElem?_eq_some_iff.1 zc0).1
  clear zc0
  have HBc := Lib.hid hBc; clear hBc
  have HWc := Lib.hid hW1; clear hW1
  have WA := Lib.hid (fun w => Water_any a b c d n w)
  cases h : partB a b c d with
  | false =>
    have e3 : watE a b c d n = 1 := by unfold watE; simp [h]
    have e1 : watN a b c d n = 0 := if_neg (by rw [e3]; decide)
    simp only [e1, e3] at WA
    clear h e1 e3
    go_enter Try.func8, Try.ntmps8
    go_upto_region 1 with (fail)
    rw [HWc.out]
    go_wp2_with fail
    refine (Calls.grown (WA.out _)).mono ?_
    rintro e w1 ⟨rfl, z1, rfl⟩
    go_wp2_with fail
    refine (Calls.gw_of (alive_any _)).mono ?_
    rintro e w1 ⟨rfl, z2, rfl⟩
    go_wp2_with fail
    go_ret
    exact ⟨rfl, HBc.out.gw z2⟩
  | true =>
    cases h2 : inB n 1 10000 with
    | false =>
      have e3 : watE a b c d n = 2 := by unfold watE; simp [h, h2]
      have e1 : watN a b c d n = 0 := if_neg (by rw [e3]; decide)
      simp only [e1, e3] at WA
      clear h h2 e1 e3
      go_enter Try.func8, Try.ntmps8
      go_upto_region 1 with (fail)
      rw [HWc.out]
      go_wp2_with fail
      refine (Calls.grown (WA.out _)).mono ?_
      rintro e w1 ⟨rfl, z1, rfl⟩
      go_wp2_with fail
      refine (Calls.gw_of (alive_any _)).mono ?_
      rintro e w1 ⟨rfl, z2, rfl⟩
      go_wp2_with fail
      go_ret
      exact ⟨rfl, HBc.out.gw z2⟩
    | true =>
      have hn : 1 ≤ n ∧ n ≤ 10000 := by simpa [inB] using h2
      obtain ⟨q1, q2, q3, q4, q5, q6⟩ := partB_t h
      by_cases h3 : c < n
      · skip
        have e3 : watE a b c d n = 11 := by unfold watE; simp [h, h2, h3]
        have e1 : watN a b c d n = 0 := if_neg (by rw [e3]; decide)
        simp only [e1, e3] at WA
        clear h h2 e1 e3
        go_enter Try.func8, Try.ntmps8
        go_upto_region 1 with (fail)
        rw [HWc.out]
        go_wp2_with fail
        refine (Calls.grown (WA.out _)).mono ?_
        rintro e w1 ⟨rfl, z1, rfl⟩
        go_wp2_with fail
        refine (Calls.gw_of (alive_any _)).mono ?_
        rintro e w1 ⟨rfl, z2, rfl⟩
        go_wp2_with fail
        go_ret
        exact ⟨rfl, HBc.out.gw z2⟩
      · skip
        have e3 : watE a b c d n = 0 := by unfold watE; simp [h, h2, h3]
        have e1 : watN a b c d n = min (1099511627776 - b) (a * (c - n) / n) := if_pos e3
        simp only [e1, e3] at WA
        have x0 := Int.mul_nonneg q1 (show 0 ≤ c - n by omega)
        have vn := Int.ediv_nonneg x0 (show 0 ≤ n by omega)
        obtain ⟨q, hq⟩ : ∃ q, a * (c - n) / n = q := ⟨_, rfl⟩
        obtain ⟨V, hV⟩ : ∃ V, min (1099511627776 - b) q = V := ⟨_, rfl⟩
        rw [hq] at vn
        simp only [hq, hV] at WA
        have g1 : 0 ≤ V ∧ V ≤ 1099511627776 - b ∧ V ≤ q ∧ (V = 1099511627776 - b ∨ V = q) := by omega
        have RP := Lib.hid (fun w => rPart_any a b c d w)
        simp only [h] at RP
        have ra := innerI_range (b := u) q2
        have rs := innerI_range (b := v) q5
        have I1 := Lib.hid (fun w => inner_any a b u w (by omega) q2 (by omega) u0 u1)
        have I2 := Lib.hid (fun w => inner_any c d v w (by omega) q5 (by omega) v0 v1)
        obtain ⟨A, hA⟩ : ∃ A, innerI a b u = A := ⟨_, rfl⟩
        obtain ⟨S, hS⟩ : ∃ S, innerI c d v = S := ⟨_, rfl⟩
        rw [hA] at ra
        rw [hS] at rs
        simp only [hA] at I1
        simp only [hS] at I2
        obtain ⟨k1, k2⟩ := water_plain (a := a) (c := c) (n := n) (V := V) (A := A) (S := S) q1 ra.1 rs.1 hn.1 (by omega) hq g1.2.2.1
        have b1 := Int.mul_nonneg (show 0 ≤ A by omega) (show 0 ≤ S by omega)
        have b2 := Int.mul_le_mul (show A ≤ 1099511627776 by omega) (show S ≤ 10000 by omega) (by omega) (by omega)
        have b3 := Int.mul_nonneg (show 0 ≤ n by omega) (show 0 ≤ A + V by omega)
        have b4 := Int.mul_nonneg q1 q4
        have b5 := Int.mul_le_mul (show a ≤ 1099511627776 by omega) (show c ≤ 10000 by omega) q4 (by omega)
        have b6 := Int.mul_nonneg (show 0 ≤ n by omega) (show 0 ≤ a + V + 1 by omega)
        have b7 := Int.mul_le_mul (show n ≤ 10000 by omega) (show a + V + 1 ≤ 1099511627777 by omega) (by omega) (by omega)
        obtain ⟨x1, hx1⟩ : ∃ x, A * S = x := ⟨_, rfl⟩
        obtain ⟨x2, hx2⟩ : ∃ x, n * (A + V) = x := ⟨_, rfl⟩
        obtain ⟨x3, hx3⟩ : ∃ x, a * c = x := ⟨_, rfl⟩
        obtain ⟨x4, hx4⟩ : ∃ x, n * (a + V + 1) = x := ⟨_, rfl⟩
        rw [hx1] at b1 b2
        rw [hx2] at b3
        rw [hx1, hx2] at k1
        rw [hx3] at b4 b5
        rw [hx4] at b6 b7
        rw [hx3, hx4] at k2
        have l1 : ¬ x1 < x2 := by omega
        have l2 : ¬ V < 0 := by omega
        have l3 : ¬ 1099511627776 - b < V := by omega
        have l4 : V = 1099511627776 - b ∨ x3 < x4 := by rcases g1.2.2.2 with g | g; exact .inl g; exact .inr (k2 g)
        clear h h2 e1 e3 hq hV hA hS k1 k2 x0 vn
        by_cases l5 : V = 1099511627776 - b
        · have l6 : (V == 1099511627776 - b) = true := by simp [l5]
          clear l4 hx3 hx4 l5
          go_enter Try.func8, Try.ntmps8
          go_upto_region 1 with (fail)
          rw [HWc.out]
          go_wp2_with fail
          refine (Calls.grown (WA.out _)).mono ?_
          rintro e w1 ⟨rfl, z1, rfl⟩
          go_wp2_with fail
          refine (Calls.gw_of (RP.out _)).mono ?_
          rintro e w1 ⟨rfl, z2, rfl⟩
          go_upto_region 6 with (fail)
          refine wp_region_gw2 (by kernel_rfl) (by kernel_rfl) ?_
          repeat (go_big_quiet_step ((go_at_call 23; with_reducible (first | exact Calls.gw_of (I1.out _) | exact Calls.gw_of (I2.out _)))))
          refine wpQuiet_nil ?_
          rintro _ ⟨z3, rfl⟩
          go_wp2_with fail
          refine (Calls.gw_of (alive_any _)).mono ?_
          rintro e w1 ⟨rfl, z4, rfl⟩
          go_wp2_with fail
          go_ret
          exact ⟨rfl, HBc.out.gw z4⟩
        · have l6 : (V == 1099511627776 - b) = false := by simp [l5]
          have l7 : x3 < x4 := l4.resolve_left l5
          clear l4 l5
          go_enter Try.func8, Try.ntmps8
          go_upto_region 1 with (fail)
          rw [HWc.out]
          go_wp2_with fail
          refine (Calls.grown (WA.out _)).mono ?_
          rintro e w1 ⟨rfl, z1, rfl⟩
          go_wp2_with fail
          refine (Calls.gw_of (RP.out _)).mono ?_
          rintro e w1 ⟨rfl, z2, rfl⟩
          go_upto_region 6 with (fail)
          refine wp_region_gw2 (by kernel_rfl) (by kernel_rfl) ?_
          repeat (go_big_quiet_step ((go_at_call 23; with_reducible (first | exact Calls.gw_of (I1.out _) | exact Calls.gw_of (I2.out _)))))
          refine wpQuiet_nil ?_
          rintro _ ⟨z3, rfl⟩
          go_wp2_with fail
          refine (Calls.gw_of (alive_any _)).mono ?_
          rintro e w1 ⟨rfl, z4, rfl⟩
          go_wp2_with fail
          go_ret
          exact ⟨rfl, HBc.out.gw z4⟩
end Go.Proofs.Ytohcopdfdmjhnaa.L1
