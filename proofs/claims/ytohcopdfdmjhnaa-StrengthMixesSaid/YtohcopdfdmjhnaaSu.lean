/- Contracts of the reference's pure, Part, Pure, Water. No conditions beyond each theorem's own. -/
import Derived.Test.YtohcopdfdmjhnaaSt
set_option linter.unusedVariables false
set_option linter.unusedSimpArgs false
set_option linter.unusedSectionVars false
set_option linter.constructorNameAsVariable false
namespace Go.Proofs.Ytohcopdfdmjhnaa.L1
open Go.RowKit
open Go.Proofs.Ytohcopdfdmjhnaa

attribute [local go_sem] gw_cell gw_frozen gw_size

set_option maxRecDepth 100000 in
set_option maxHeartbeats 1000000 in
theorem rpure_any (a b c d : Int) (w : World) (a0 : 0 ≤ a) (a1 : a ≤ 1099511627776) (b0 : 0 ≤ b) (b1 : b ≤ 1099511627776) (c0 : 0 ≤ c) (c1 : c ≤ 10000) (d0 : 0 ≤ d) (d1 : d ≤ 10000) :
    Calls Try.prog 78 #[.agg #[.int .i64 a, .int .i64 b], .agg #[.int .i64 c, .int .i64 d]] w fun e w' => e = .returned (.agg #[.int .i64 (puLo a c), .int .i64 (puHi b d)]) ∧ Below w.heap.size w w' := by
  have p0 := Int.mul_nonneg a0 c0
  have p1 := Int.mul_le_mul a1 c1 c0 (by omega)
  have q0 := Int.mul_nonneg b0 d0
  have q1 := Int.mul_le_mul b1 d1 d0 (by omega)
  have hp : puLo a c = a * c / 10000 := rfl
  have hq : puHi b d = (b * d + 10000 - 1) / 10000 := rfl
  rw [hp, hq]
  obtain ⟨P, hP⟩ : ∃ P, a * c = P := ⟨_, rfl⟩
  obtain ⟨Q, hQ⟩ : ∃ Q, b * d = Q := ⟨_, rfl⟩
  rw [hP] at p0 p1 ⊢
  rw [hQ] at q0 q1 ⊢
  clear hp hq
  obtain ⟨W1, hW1⟩ : ∃ W1, ((w.alloc (.cells #[.int .i64 a, .int .i64 b] 27)).alloc (.cells #[.int .i64 c, .int .i64 d] 27)).alloc (.cells #[.int .i64 0, .int .i64 0] 27) = W1 := ⟨_, rfl⟩
  have hBc : Below w.heap.size w W1 := by rw [← hW1]; exact ((below_alloc _ _).alloc (by simp) _).alloc (by simp <;> omega) _
  have zc0 : W1.heap[w.heap.size]? = some (.cells #[.int .i64 a, .int .i64 b] 27 (0, 0)) := by rw [← hW1]; exact alloc_keep (alloc_keep (alloc_at rfl))
  have zc1 : W1.heap[w.heap.size + 1]? = some (.cells #[.int .i64 c, .int .i64 d] 27 (0, 0)) := by rw [← hW1]; exact alloc_keep (alloc_at (by simp))
  have zc2 : W1.heap[w.heap.size + 1 + 1]? = some (.cells #[.int .i64 0, .int .i64 0] 27 (0, 0)) := by rw [← hW1]; exact alloc_at (by simp <;> omega)
  have c00 : W1.cell? ⟨w.heap.size, 0, none⟩ = some (.int .i64 a) := cell_of_block zc0 0 (by simp)
  have c01 : W1.cell? ⟨w.heap.size, 1, none⟩ = some (.int .i64 b) := cell_of_block zc0 1 (by simp)
  have c10 : W1.cell? ⟨w.heap.size + 1, 0, none⟩ = some (.int .i64 c) := cell_of_block zc1 0 (by simp)
  have c11 : W1.cell? ⟨w.heap.size + 1, 1, none⟩ = some (.int .i64 d) := cell_of_block zc1 1 (by simp)
  have c20 : W1.cell? ⟨w.heap.size + 1 + 1, 0, none⟩ = some (.int .i64 0) := cell_of_block zc2 0 (by simp)
  have c21 : W1.cell? ⟨w.heap.size + 1 + 1, 1, none⟩ = some (.int .i64 0) := cell_of_block zc2 1 (by simp)
  have lc0 := (Array.getElem?_eq_some_iff.1 zc0).1
  have lc1 := (Array.getElem?_eq_some_iff.1 zc1).1
  have lc2 := (Array.getElem?_eq_some_iff.1 zc2).1
  have fc20 := frozen_of_block zc2 0
  have fc21 := frozen_of_block zc2 1
  clear zc0 zc1 zc2
  have HBc := Lib.hid hBc; clear hBc
  have HWc := Lib.hid hW1; clear hW1
  go_enter Try.func78, Try.ntmps78
  go_upto_region 1 with (fail)
  rw [HWc.out]
  go_wp2_with fail
  refine bodyPost_ret (v := .agg #[.int .i64 (P / 10000), .int .i64 ((Q + 10000 - 1) / 10000)]) (by simp [results, Try.results78, go_sem, *]) rfl ⟨rfl, ?_⟩
  exact (HBc.out.setCell (by simp <;> omega) _).setCell (by simp <;> omega) _

set_option maxHeartbeats 400000 in
theorem rPart_any (a b c d : Int) (w : World) :
    Calls Try.prog 37 #[.agg #[.int .i64 a, .int .i64 b, .int .i64 c, .int .i64 d]] w fun e w' => e = .returned (.bool (partB a b c d)) ∧ Below w.heap.size w w' := by
  obtain ⟨W1, hW1⟩ : ∃ W1, w.alloc (.cells #[.int .i64 a, .int .i64 b, .int .i64 c, .int .i64 d] 43) = W1 := ⟨_, rfl⟩
  have hBc : Below w.heap.size w W1 := by rw [← hW1]; exact below_alloc _ _
  have zc0 : W1.heap[w.heap.size]? = some (.cells #[.int .i64 a, .int .i64 b, .int .i64 c, .int .i64 d] 43 (0, 0)) := by rw [← hW1]; exact alloc_at rfl
  have c00 : W1.cell? ⟨w.heap.size, 0, none⟩ = some (.int .i64 a) := cell_of_block zc0 0 (by simp)
  have c01 : W1.cell? ⟨w.heap.size, 1, none⟩ = some (.int .i64 b) := cell_of_block zc0 1 (by simp)
  have c02 : W1.cell? ⟨w.heap.size, 2, none⟩ = some (.int .i64 c) := cell_of_block zc0 2 (by simp)
  have c03 : W1.cell? ⟨w.heap.size, 3, none⟩ = some (.int .i64 d) := cell_of_block zc0 3 (by simp)
  have lc0 := (Array.getElem?_eq_some_iff.1 zc0).1
  clear zc0
  have HBc := Lib.hid hBc; clear hBc
  have HWc := Lib.hid hW1; clear hW1
  cases h1 : spanB a b 0 1099511627776 with
  | false =>
    have e : partB a b c d = false := by unfold partB; rw [h1]; rfl
    rw [e]
    have I1 := Lib.hid (fun w => rwithin_b (b := false) a b 0 1099511627776 w h1)
    clear h1 e
    go_enter Try.func37, Try.ntmps37
    go_upto_region 1 with (fail)
    rw [HWc.out]
    go_wp2_with fail
    refine (Calls.grown (I1.out _)).mono ?_
    rintro e w1 ⟨rfl, z1, rfl⟩
    go_wp2_with fail
    refine bodyPost_ret (v := .bool false) (by simp [results, Try.results37, go_sem, *]) rfl ⟨rfl, ?_⟩
    exact HBc.out.gw z1
  | true =>
    have e : partB a b c d = spanB c d 0 10000 := by unfold partB; rw [h1]; rfl
    rw [e]
    have I1 := Lib.hid (fun w => rwithin_b (b := true) a b 0 1099511627776 w h1)
    have I2 := Lib.hid (fun w => rwithin_any c d 0 10000 w)
    clear h1 e
    generalize spanB c d 0 10000 = x at *
    go_enter Try.func37, Try.ntmps37
    go_upto_region 1 with (fail)
    rw [HWc.out]
    go_wp2_with fail
    refine (Calls.grown (I1.out _)).mono ?_
    rintro e w1 ⟨rfl, z1, rfl⟩
    go_wp2_with fail
    refine (Calls.gw_of (I2.out _)).mono ?_
    rintro e w1 ⟨rfl, z2, rfl⟩
    go_wp2_with fail
    refine bodyPost_ret (v := .bool x) (by simp [results, Try.results37, go_sem, *]) rfl ⟨rfl, ?_⟩
    exact HBc.out.gw z2

set_option maxRecDepth 100000 in
set_option maxHeartbeats 1000000 in
theorem rPure_any (a b c d : Int) (w : World) :
    Calls Try.prog 44 #[.agg #[.int .i64 a, .int .i64 b], .agg #[.int .i64 c, .int .i64 d]] w fun e w' => e = .returned (.tuple #[.agg #[.int .i64 (purL a b c d), .int .i64 (purH a b c d)], .int .i64 (purE a b c d)]) ∧ Below w.heap.size w w' := by
  obtain ⟨W1, hW1⟩ : ∃ W1, ((w.alloc (.cells #[.int .i64 a, .int .i64 b] 27)).alloc (.cells #[.int .i64 c, .int .i64 d] 27)).alloc (.cells #[.int .i64 0, .int .i64 0] 27) = W1 := ⟨_, rfl⟩
  have hBc : Below w.heap.size w W1 := by rw [← hW1]; exact ((below_alloc _ _).alloc (by simp) _).alloc (by simp <;> omega) _
  have zc0 : W1.heap[w.heap.size]? = some (.cells #[.int .i64 a, .int .i64 b] 27 (0, 0)) := by rw [← hW1]; exact alloc_keep (alloc_keep (alloc_at rfl))
  have zc1 : W1.heap[w.heap.size + 1]? = some (.cells #[.int .i64 c, .int .i64 d] 27 (0, 0)) := by rw [← hW1]; exact alloc_keep (alloc_at (by simp))
  have zc2 : W1.heap[w.heap.size + 1 + 1]? = some (.cells #[.int .i64 0, .int .i64 0] 27 (0, 0)) := by rw [← hW1]; exact alloc_at (by simp <;> omega)
  have c00 : W1.cell? ⟨w.heap.size, 0, none⟩ = some (.int .i64 a) := cell_of_block zc0 0 (by simp)
  have c01 : W1.cell? ⟨w.heap.size, 1, none⟩ = some (.int .i64 b) := cell_of_block zc0 1 (by simp)
  have c10 : W1.cell? ⟨w.heap.size + 1, 0, none⟩ = some (.int .i64 c) := cell_of_block zc1 0 (by simp)
  have c11 : W1.cell? ⟨w.heap.size + 1, 1, none⟩ = some (.int .i64 d) := cell_of_block zc1 1 (by simp)
  have c20 : W1.cell? ⟨w.heap.size + 1 + 1, 0, none⟩ = some (.int .i64 0) := cell_of_block zc2 0 (by simp)
  have c21 : W1.cell? ⟨w.heap.size + 1 + 1, 1, none⟩ = some (.int .i64 0) := cell_of_block zc2 1 (by simp)
  have lc0 := (Array.getElem?_eq_some_iff.1 zc0).1
  have lc1 := (Array.getElem?_eq_some_iff.1 zc1).1
  have lc2 := (Array.getElem?_eq_some_iff.1 zc2).1
  have fc20 := frozen_of_block zc2 0
  have fc21 := frozen_of_block zc2 1
  clear zc0 zc1 zc2
  have HBc := Lib.hid hBc; clear hBc
  have HWc := Lib.hid hW1; clear hW1
  cases h1 : spanB a b 0 1099511627776 with
  | false =>
    have h : partB a b c d = false := by unfold partB; rw [h1]; rfl
    have I1 := Lib.hid (fun w => rwithin_b (b := false) a b 0 1099511627776 w h1)
    have e1 : purL a b c d = 0 := if_neg (by rw [h]; decide)
    have e2 : purH a b c d = 0 := if_neg (by rw [h]; decide)
    have e3 : purE a b c d = 1 := if_neg (by rw [h]; decide)
    rw [e1, e2, e3]
    clear h h1 e1 e2 e3
    go_enter Try.func44, Try.ntmps44
    go_upto_region 1 with (fail)
    rw [HWc.out]
    go_wp2_with fail
    refine (Calls.grown (I1.out _)).mono ?_
    rintro e w1 ⟨rfl, z1, rfl⟩
    go_wp2_with fail
    refine bodyPost_ret (v := .tuple #[.agg #[.int .i64 0, .int .i64 0], .int .i64 1]) (by simp [results, Try.results44, go_sem, *]) rfl ⟨rfl, ?_⟩
    exact ((HBc.out.gw z1).setCell (by simp <;> omega) _).setCell (by simp <;> omega) _
  | true =>
    have I1 := Lib.hid (fun w => rwithin_b (b := true) a b 0 1099511627776 w h1)
    cases h2 : spanB c d 0 10000 with
    | false =>
      have h : partB a b c d = false := by unfold partB; rw [h1, h2]; rfl
      have I2 := Lib.hid (fun w => rwithin_b (b := false) c d 0 10000 w h2)
      have e1 : purL a b c d = 0 := if_neg (by rw [h]; decide)
      have e2 : purH a b c d = 0 := if_neg (by rw [h]; decide)
      have e3 : purE a b c d = 1 := if_neg (by rw [h]; decide)
      rw [e1, e2, e3]
      clear h h1 h2 e1 e2 e3
      go_enter Try.func44, Try.ntmps44
      go_upto_region 1 with (fail)
      rw [HWc.out]
      go_wp2_with fail
      refine (Calls.grown (I1.out _)).mono ?_
      rintro e w1 ⟨rfl, z1, rfl⟩
      go_wp2_with fail
      refine (Calls.gw_of (I2.out _)).mono ?_
      rintro e w1 ⟨rfl, z2, rfl⟩
      go_wp2_with fail
      refine bodyPost_ret (v := .tuple #[.agg #[.int .i64 0, .int .i64 0], .int .i64 1]) (by simp [results, Try.results44, go_sem, *]) rfl ⟨rfl, ?_⟩
      exact ((HBc.out.gw z2).setCell (by simp <;> omega) _).setCell (by simp <;> omega) _
    | true =>
      have h : partB a b c d = true := by unfold partB; rw [h1, h2]; rfl
      have I2 := Lib.hid (fun w => rwithin_b (b := true) c d 0 10000 w h2)
      have e1 : purL a b c d = puLo a c := if_pos h
      have e2 : purH a b c d = puHi b d := if_pos h
      have e3 : purE a b c d = 0 := if_pos h
      rw [e1, e2, e3]
      obtain ⟨q1, q2, q3, q4, q5, q6⟩ := partB_t h
      have PU := Lib.hid (fun w => rpure_any a b c d w q1 (by omega) (by omega) q3 q4 (by omega) (by omega) q6)
      clear h h1 h2 e1 e2 e3 q1 q2 q3 q4 q5 q6
      generalize puLo a c = l at *
      generalize puHi b d = u at *
      go_enter Try.func44, Try.ntmps44
      go_upto_region 1 with (fail)
      rw [HWc.out]
      go_wp2_with fail
      refine (Calls.grown (I1.out _)).mono ?_
      rintro e w1 ⟨rfl, z1, rfl⟩
      go_wp2_with fail
      refine (Calls.gw_of (I2.out _)).mono ?_
      rintro e w1 ⟨rfl, z2, rfl⟩
      go_wp2_with fail
      refine (Calls.gw_of (PU.out _)).mono ?_
      rintro e w1 ⟨rfl, z3, rfl⟩
      go_wp2_with fail
      refine bodyPost_ret (v := .tuple #[.agg #[.int .i64 l, .int .i64 u], .int .i64 0]) (by simp [results, Try.results44, go_sem, *]) rfl ⟨rfl, ?_⟩
      exact ((HBc.out.gw z3).setCell (by simp <;> omega) _).setCell (by simp <;> omega) _

set_option maxRecDepth 100000 in
set_option maxHeartbeats 2000000 in
theorem rWater_any (a b c d n : Int) (w : World) :
    Calls Try.prog 46 #[.agg #[.int .i64 a, .int .i64 b, .int .i64 c, .int .i64 d], .int .i64 n] w fun e w' => e = .returned (.tuple #[.int .i64 (watN a b c d n), .int .i64 (watE a b c d n)]) ∧ Below w.heap.size w w' := by

  obtain ⟨W1, hW1⟩ : ∃ W1, w.alloc (.cells #[.int .i64 a, .int .i64 b, .int .i64 c, .int .i64 d] 43) = W1 := ⟨_, rfl⟩
  have hBc : Below w.heap.size w W1 := by rw [← hW1]; exact below_alloc _ _
  have zc0 : W1.heap[w.heap.size]? = some (.cells #[.int .i64 a, .int .i64 b, .int .i64 c, .int .i64 d] 43 (0, 0)) := by rw [← hW1]; exact alloc_at rfl
  have c00 : W1.cell? ⟨w.heap.size, 0, none⟩ = some (.int .i64 a) := cell_of_block zc0 0 (by simp)
  have c01 : W1.cell? ⟨w.heap.size, 1, none⟩ = some (.int .i64 b) := cell_of_block zc0 1 (by simp)
  have c02 : W1.cell? ⟨w.heap.size, 2, none⟩ = some (.int .i64 c) := cell_of_block zc0 2 (by simp)
  have c03 : W1.cell? ⟨w.heap.size, 3, none⟩ = some (.int .i64 d) := cell_of_block zc0 3 (by simp)
  have lc0 := (Array.getElem?_eq_some_iff.1 zc0).1
  clear zc0
  have HBc := Lib.hid hBc; clear hBc
  have HWc := Lib.hid hW1; clear hW1
  have IP := Lib.hid (fun w => rPart_any a b c d w)
  have IN := Lib.hid (fun w => rin_any n 1 10000 w)
  cases h : partB a b c d with
  | false =>
    have e3 : watE a b c d n = 1 := by unfold watE; simp [h]
    have e1 : watN a b c d n = 0 := if_neg (by rw [e3]; decide)
    rw [e1, e3]
    rw [h] at IP
    clear h e1 e3 IN
    go_enter Try.func46, Try.ntmps46
    go_upto_region 1 with (fail)
    rw [HWc.out]
    go_wp2_with fail
    refine (Calls.grown (IP.out _)).mono ?_
    rintro e w1 ⟨rfl, z1, rfl⟩
    go_wp2_with fail
    go_ret2
    exact ⟨rfl, HBc.out.gw z1⟩
  | true =>
    cases h2 : inB n 1 10000 with
    | false =>
      have e3 : watE a b c d n = 2 := by unfold watE; simp [h, h2]
      have e1 : watN a b c d n = 0 := if_neg (by rw [e3]; decide)
      rw [e1, e3]
      simp only [h] at IP
      simp only [h2] at IN
      clear h h2 e1 e3
      go_enter Try.func46, Try.ntmps46
      go_upto_region 1 with (fail)
      rw [HWc.out]
      go_wp2_with fail
      refine (Calls.grown (IP.out _)).mono ?_
      rintro e w1 ⟨rfl, z1, rfl⟩
      go_wp2_with fail
      refine (IN.out _).mono ?_
      rintro e w1 ⟨rfl, rfl⟩
      go_wp2_with fail
      go_ret2
      exact ⟨rfl, HBc.out.gw z1⟩
    | true =>
      have hn : 1 ≤ n ∧ n ≤ 10000 := by simpa [inB] using h2
      obtain ⟨q1, q2, q3, q4, q5, q6⟩ := partB_t h
      by_cases h3 : c < n
      · skip
        have e3 : watE a b c d n = 11 := by unfold watE; simp [h, h2, h3]
        have e1 : watN a b c d n = 0 := if_neg (by rw [e3]; decide)
        rw [e1, e3]
        simp only [h] at IP
        simp only [h2] at IN
        clear h h2 e1 e3
        go_enter Try.func46, Try.ntmps46
        go_upto_region 1 with (fail)
        rw [HWc.out]
        go_wp2_with fail
        refine (Calls.grown (IP.out _)).mono ?_
        rintro e w1 ⟨rfl, z1, rfl⟩
        go_wp2_with fail
        refine (IN.out _).mono ?_
        rintro e w1 ⟨rfl, rfl⟩
        go_wp2_with fail
        go_ret2
        exact ⟨rfl, HBc.out.gw z1⟩
      · skip
        have e3 : watE a b c d n = 0 := by unfold watE; simp [h, h2, h3]
        have e1 : watN a b c d n = min (1099511627776 - b) (a * (c - n) / n) := if_pos e3
        rw [e1, e3]
        have x0 := Int.mul_nonneg q1 (show 0 ≤ c - n by omega)
        have x1 := Int.mul_le_mul (show a ≤ 1099511627776 by omega) (show c - n ≤ 10000 by omega) (by omega) (by omega)
        have v0 := Int.ediv_nonneg x0 (show 0 ≤ n by omega)
        have v1 : a * (c - n) / n ≤ a * (c - n) := Int.ediv_le_self _ x0
        obtain ⟨V, hV⟩ : ∃ V, a * (c - n) / n = V := ⟨_, rfl⟩
        obtain ⟨X, hX⟩ : ∃ X, a * (c - n) = X := ⟨_, rfl⟩
        rw [hV] at v0 v1 ⊢
        rw [hX] at x0 x1 v1 hV
        simp only [h] at IP
        simp only [h2] at IN
        have g1 : ¬ n = 0 := by omega
        clear h h2 e1 e3
        go_enter Try.func46, Try.ntmps46
        go_upto_region 1 with (fail)
        rw [HWc.out]
        go_wp2_with fail
        refine (Calls.grown (IP.out _)).mono ?_
        rintro e w1 ⟨rfl, z1, rfl⟩
        go_wp2_with fail
        refine (IN.out _).mono ?_
        rintro e w1 ⟨rfl, rfl⟩
        go_upto_region 7 with (fail)
        go_region
        go_wp2_with fail
        go_ret2
        first | exact ⟨rfl, HBc.out.gw z1⟩ | exact ⟨rfl, thru (below_drew _) (HBc.out.gw z1)⟩
end Go.Proofs.Ytohcopdfdmjhnaa.L1
